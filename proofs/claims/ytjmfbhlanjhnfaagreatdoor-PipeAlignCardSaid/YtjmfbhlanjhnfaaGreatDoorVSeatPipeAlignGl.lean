/- The law, node by node; hence from its start, for every input. No conditions. -/
import Derived.Test.YtjmfbhlanjhnfaaGreatDoorVSeatPipeAlignR1
import Derived.Test.YtjmfbhlanjhnfaaGreatDoorVSeatPipeAlignR2
import Derived.Test.YtjmfbhlanjhnfaaGreatDoorVSeatPipeAlignR3
import Derived.Test.YtjmfbhlanjhnfaaGreatDoorVSeatPipeAlignR4
set_option linter.all false
namespace Go.Proofs
open Go Go.Vsx Go.RowKit
set_option maxRecDepth 1000000
set_option maxHeartbeats 4000000
set_option linter.unusedVariables false
theorem Zw.r64a {x : Int} (h : R64 x) : -9223372036854775808 ≤ x ∧ x < 9223372036854775808 := h
theorem Zw.nx {W : World} {pt pt' : Pt} {d d' : Nd} {vals : List Value} {roc : List (List Value)} {j hk : Nat} {rl : List (Nat × Nat)} {A : List Value} (t : List SE) (ex : List Value) (rows : List Pl) (vals' : List Value)
    (hok : ∀ sy, okPt (Tryz.Es Tryz.m4 sy) 8 pt = true) (hold : AllHold (nodeMu 8 rows (vals ++ ex)) t)
    (hid : d.sub 8 roc (idl 8 d.objs) (idA hk) (d.st 8 []) = true) (hlen : hk = vals.length) (hone : (vals ++ ex).all (·.oneCell') = true) (hrow : RowsHold W (nodeMu 8 rows (vals ++ ex)) rows roc)
    (hrun : leafNext (fK (Tryz.Es Tryz.m4 (syOf t)) 100000 100000 pt (d.st 8 roc) j) 8 d' rl A = some pt') (hA : evL (nodeMu 8 rows (vals ++ ex)) A = some vals') (hone' : vals'.all (·.oneCell') = true)
    (h : NdGood Tryz.prog Tryz.f6 8 Tryz.H0 W pt' d' vals') : NdGood Tryz.prog Tryz.f6 8 Tryz.H0 W pt d vals :=
  NdGood.next (E := Tryz.Es Tryz.m4 (syOf t)) (extras := ex) (rows := rows) (vals' := vals') (by omega) (Tryz.right Tryz.m4 (syOf t) _ W Tryz.mOk4 (symOk_of rfl hold)) (hok _) hid hlen hone hrow hrun hA hone' h
theorem Zw.fx {W : World} {pt : Pt} {d : Nd} {vals : List Value} {roc : List (List Value)} {j hk : Nat} (t : List SE) (ex : List Value) (rows : List Pl)
    (hok : ∀ sy, okPt (Tryz.Es Tryz.m4 sy) 8 pt = true) (hold : AllHold (nodeMu 8 rows (vals ++ ex)) t)
    (hid : d.sub 8 roc (idl 8 d.objs) (idA hk) (d.st 8 []) = true) (hlen : hk = vals.length) (hone : (vals ++ ex).all (·.oneCell') = true) (hrow : RowsHold W (nodeMu 8 rows (vals ++ ex)) rows roc)
    (hrun : leafFin (Tryz.Es Tryz.m4 (syOf t)) Tryz.f6 (fK (Tryz.Es Tryz.m4 (syOf t)) 100000 100000 pt (d.st 8 roc) j) = true) : NdGood Tryz.prog Tryz.f6 8 Tryz.H0 W pt d vals :=
  NdGood.fin (E := Tryz.Es Tryz.m4 (syOf t)) (extras := ex) (rows := rows) (by omega) (Tryz.right Tryz.m4 (syOf t) _ W Tryz.mOk4 (symOk_of rfl hold)) (hok _) hid hlen hone hrow hrun

theorem Zw.n4 {W : World} {n0 : Int} {a1 : Option Addr} {m1 c1 : Nat} {f1q0 : Nat → Int} (r0 : R64 n0) (h1 : SlcOk W a1 m1 c1 1 (fun i => [.int .i64 (f1q0 i)])) (b1 : (m1 : Int) < 9223372036854775808) (r1q0 : ∀ i, R64 (f1q0 i)) : NdGood Tryz.prog Tryz.f6 8 Tryz.H0 W Zw.p0 Zw.d4 [(.slice a1 m1 c1)] := by
  have ⟨rl0, rh0⟩ := r0
  exact Zw.fx Zw.t21 [] [] (Zw.k0 _) trivial Zw.i21 rfl rfl rowsHold_nil Zw.r21
theorem Zw.n5 {W : World} {n0 : Int} {a1 : Option Addr} {m1 c1 : Nat} {f1q0 : Nat → Int} (r0 : R64 n0) (h1 : SlcOk W a1 m1 c1 1 (fun i => [.int .i64 (f1q0 i)])) (b1 : (m1 : Int) < 9223372036854775808) (r1q0 : ∀ i, R64 (f1q0 i)) : NdGood Tryz.prog Tryz.f6 8 Tryz.H0 W Zw.p0 Zw.d5 [(.slice a1 m1 c1)] := by
  have ⟨rl0, rh0⟩ := r0
  exact Zw.fx Zw.t22 [] [] (Zw.k0 _) trivial Zw.i22 rfl rfl rowsHold_nil Zw.r22
theorem Zw.n6 {W : World} {n0 : Int} {a1 : Option Addr} {m1 c1 : Nat} {f1q0 : Nat → Int} (r0 : R64 n0) (h1 : SlcOk W a1 m1 c1 1 (fun i => [.int .i64 (f1q0 i)])) (b1 : (m1 : Int) < 9223372036854775808) (r1q0 : ∀ i, R64 (f1q0 i)) : NdGood Tryz.prog Tryz.f6 8 Tryz.H0 W Zw.p0 Zw.d6 [(.slice a1 m1 c1)] := by
  have ⟨rl0, rh0⟩ := r0
  exact Zw.fx Zw.t23 [] [] (Zw.k0 _) trivial Zw.i23 rfl rfl rowsHold_nil Zw.r23
theorem Zw.n7 {W : World} {n0 : Int} {a1 : Option Addr} {m1 c1 : Nat} {f1q0 : Nat → Int} (r0 : R64 n0) (h1 : SlcOk W a1 m1 c1 1 (fun i => [.int .i64 (f1q0 i)])) (b1 : (m1 : Int) < 9223372036854775808) (r1q0 : ∀ i, R64 (f1q0 i)) : NdGood Tryz.prog Tryz.f6 8 Tryz.H0 W Zw.p0 Zw.d7 [(.slice a1 m1 c1)] := by
  have ⟨rl0, rh0⟩ := r0
  exact Zw.fx Zw.t24 [] [] (Zw.k0 _) trivial Zw.i24 rfl rfl rowsHold_nil Zw.r24
theorem Zw.n8 {W : World} {n0 : Int} {a1 : Option Addr} {m1 c1 : Nat} {f1q0 : Nat → Int} (r0 : R64 n0) (h1 : SlcOk W a1 m1 c1 1 (fun i => [.int .i64 (f1q0 i)])) (b1 : (m1 : Int) < 9223372036854775808) (r1q0 : ∀ i, R64 (f1q0 i)) : NdGood Tryz.prog Tryz.f6 8 Tryz.H0 W Zw.p0 Zw.d8 [(.slice a1 m1 c1)] := by
  have ⟨rl0, rh0⟩ := r0
  exact Zw.fx Zw.t25 [] [] (Zw.k0 _) trivial Zw.i25 rfl rfl rowsHold_nil Zw.r25
theorem Zw.n1 {W : World} {n0 : Int} {a1 : Option Addr} {m1 c1 : Nat} {f1q0 : Nat → Int} (r0 : R64 n0) (h1 : SlcOk W a1 m1 c1 1 (fun i => [.int .i64 (f1q0 i)])) (b1 : (m1 : Int) < 9223372036854775808) (r1q0 : ∀ i, R64 (f1q0 i)) : NdGood Tryz.prog Tryz.f6 8 Tryz.H0 W Zw.p0 Zw.d1 [(.slice a1 m1 c1)] := by
  have ⟨rl0, rh0⟩ := r0
  by_cases q1 : (0 : Int) < (m1 : Int)
  ·
    have l2 : 0 < m1 := by omega
    obtain ⟨p2, v2⟩ := h1.elem l2
    have w2q0 := r1q0 0
    obtain ⟨d3, ⟨y3, e3, z3, u3, w3⟩, g3, o3⟩ := ex_rem (f1q0 0) (5 : Int) (by omega) (by omega)
    obtain ⟨d4, e4, g4, o4⟩ := ex_add d3 (5 : Int)
    obtain ⟨d5, ⟨y5, e5, z5, u5, w5⟩, g5, o5⟩ := ex_rem d4 (5 : Int) (by omega) (by omega)
    rcases (show d5 = 0 ∨ d5 = 1 ∨ d5 = 2 ∨ d5 = 3 ∨ d5 = 4 by omega) with k5 | k5 | k5 | k5 | k5
    ·
      exact Zw.nx Zw.t3 [(.int .i64 (f1q0 0)), (.int .i64 (m1 : Int)), (.int .i64 d3), (.int .i64 d4)] [p2] [(.slice a1 m1 c1)] (Zw.k0 _) ⟨hold_len (.atom _ _ rfl) (.atom _ _ rfl), hold_bool (.int _ _) (.atom _ _ rfl) (op_lss_t q1), hold_idx v2 l2 (.atom _ _ rfl) (.int _ _) (by omega) rfl, hold_op (.atom _ _ rfl) (.int _ _) (o3 .i64) (.atom _ _ rfl), hold_op (.atom _ _ rfl) (.int _ _) o4 (.atom _ _ rfl), hold_op (.atom _ _ rfl) (.int _ _) (by have := (o5 .i64); rw [k5] at this; exact this) (.int _ _), trivial⟩ Zw.i3 rfl rfl (rowsHold_cons (Elem.row v2 (VL.cons (.atom _ _ rfl) VL.nil)) rowsHold_nil) Zw.r3 rfl rfl (Zw.n4 r0 h1 b1 r1q0 )
    ·
      exact Zw.nx Zw.t4 [(.int .i64 (f1q0 0)), (.int .i64 (m1 : Int)), (.int .i64 d3), (.int .i64 d4)] [p2] [(.slice a1 m1 c1)] (Zw.k0 _) ⟨hold_len (.atom _ _ rfl) (.atom _ _ rfl), hold_bool (.int _ _) (.atom _ _ rfl) (op_lss_t q1), hold_idx v2 l2 (.atom _ _ rfl) (.int _ _) (by omega) rfl, hold_op (.atom _ _ rfl) (.int _ _) (o3 .i64) (.atom _ _ rfl), hold_op (.atom _ _ rfl) (.int _ _) o4 (.atom _ _ rfl), hold_op (.atom _ _ rfl) (.int _ _) (by have := (o5 .i64); rw [k5] at this; exact this) (.int _ _), trivial⟩ Zw.i4 rfl rfl (rowsHold_cons (Elem.row v2 (VL.cons (.atom _ _ rfl) VL.nil)) rowsHold_nil) Zw.r4 rfl rfl (Zw.n5 r0 h1 b1 r1q0 )
    ·
      exact Zw.nx Zw.t5 [(.int .i64 (f1q0 0)), (.int .i64 (m1 : Int)), (.int .i64 d3), (.int .i64 d4)] [p2] [(.slice a1 m1 c1)] (Zw.k0 _) ⟨hold_len (.atom _ _ rfl) (.atom _ _ rfl), hold_bool (.int _ _) (.atom _ _ rfl) (op_lss_t q1), hold_idx v2 l2 (.atom _ _ rfl) (.int _ _) (by omega) rfl, hold_op (.atom _ _ rfl) (.int _ _) (o3 .i64) (.atom _ _ rfl), hold_op (.atom _ _ rfl) (.int _ _) o4 (.atom _ _ rfl), hold_op (.atom _ _ rfl) (.int _ _) (by have := (o5 .i64); rw [k5] at this; exact this) (.int _ _), trivial⟩ Zw.i5 rfl rfl (rowsHold_cons (Elem.row v2 (VL.cons (.atom _ _ rfl) VL.nil)) rowsHold_nil) Zw.r5 rfl rfl (Zw.n6 r0 h1 b1 r1q0 )
    ·
      exact Zw.nx Zw.t6 [(.int .i64 (f1q0 0)), (.int .i64 (m1 : Int)), (.int .i64 d3), (.int .i64 d4)] [p2] [(.slice a1 m1 c1)] (Zw.k0 _) ⟨hold_len (.atom _ _ rfl) (.atom _ _ rfl), hold_bool (.int _ _) (.atom _ _ rfl) (op_lss_t q1), hold_idx v2 l2 (.atom _ _ rfl) (.int _ _) (by omega) rfl, hold_op (.atom _ _ rfl) (.int _ _) (o3 .i64) (.atom _ _ rfl), hold_op (.atom _ _ rfl) (.int _ _) o4 (.atom _ _ rfl), hold_op (.atom _ _ rfl) (.int _ _) (by have := (o5 .i64); rw [k5] at this; exact this) (.int _ _), trivial⟩ Zw.i6 rfl rfl (rowsHold_cons (Elem.row v2 (VL.cons (.atom _ _ rfl) VL.nil)) rowsHold_nil) Zw.r6 rfl rfl (Zw.n7 r0 h1 b1 r1q0 )
    ·
      exact Zw.nx Zw.t7 [(.int .i64 (f1q0 0)), (.int .i64 (m1 : Int)), (.int .i64 d3), (.int .i64 d4)] [p2] [(.slice a1 m1 c1)] (Zw.k0 _) ⟨hold_len (.atom _ _ rfl) (.atom _ _ rfl), hold_bool (.int _ _) (.atom _ _ rfl) (op_lss_t q1), hold_idx v2 l2 (.atom _ _ rfl) (.int _ _) (by omega) rfl, hold_op (.atom _ _ rfl) (.int _ _) (o3 .i64) (.atom _ _ rfl), hold_op (.atom _ _ rfl) (.int _ _) o4 (.atom _ _ rfl), hold_op (.atom _ _ rfl) (.int _ _) (by have := (o5 .i64); rw [k5] at this; exact this) (.int _ _), trivial⟩ Zw.i7 rfl rfl (rowsHold_cons (Elem.row v2 (VL.cons (.atom _ _ rfl) VL.nil)) rowsHold_nil) Zw.r7 rfl rfl (Zw.n8 r0 h1 b1 r1q0 )
  ·
    exact Zw.nx Zw.t8 [(.int .i64 (m1 : Int))] [] [(.slice a1 m1 c1)] (Zw.k0 _) ⟨hold_len (.atom _ _ rfl) (.atom _ _ rfl), hold_bool (.int _ _) (.atom _ _ rfl) (op_lss_f (Int.not_lt.1 q1)), trivial⟩ Zw.i8 rfl rfl rowsHold_nil Zw.r8 rfl rfl (Zw.n4 r0 h1 b1 r1q0 )
theorem Zw.n19 {W : World} {n0 : Int} {a1 : Option Addr} {m1 c1 : Nat} {f1q0 : Nat → Int} (r0 : R64 n0) (h1 : SlcOk W a1 m1 c1 1 (fun i => [.int .i64 (f1q0 i)])) (b1 : (m1 : Int) < 9223372036854775808) (r1q0 : ∀ i, R64 (f1q0 i)) : NdGood Tryz.prog Tryz.f6 8 Tryz.H0 W Zw.p0 Zw.d19 [(.slice a1 m1 c1)] := by
  have ⟨rl0, rh0⟩ := r0
  exact Zw.fx Zw.t86 [] [] (Zw.k0 _) trivial Zw.i86 rfl rfl rowsHold_nil Zw.r86
theorem Zw.n20 {W : World} {n0 : Int} {a1 : Option Addr} {m1 c1 : Nat} {f1q0 : Nat → Int} (r0 : R64 n0) (h1 : SlcOk W a1 m1 c1 1 (fun i => [.int .i64 (f1q0 i)])) (b1 : (m1 : Int) < 9223372036854775808) (r1q0 : ∀ i, R64 (f1q0 i)) : NdGood Tryz.prog Tryz.f6 8 Tryz.H0 W Zw.p0 Zw.d20 [(.slice a1 m1 c1)] := by
  have ⟨rl0, rh0⟩ := r0
  exact Zw.fx Zw.t87 [] [] (Zw.k0 _) trivial Zw.i87 rfl rfl rowsHold_nil Zw.r87
theorem Zw.n21 {W : World} {n0 : Int} {a1 : Option Addr} {m1 c1 : Nat} {f1q0 : Nat → Int} (r0 : R64 n0) (h1 : SlcOk W a1 m1 c1 1 (fun i => [.int .i64 (f1q0 i)])) (b1 : (m1 : Int) < 9223372036854775808) (r1q0 : ∀ i, R64 (f1q0 i)) : NdGood Tryz.prog Tryz.f6 8 Tryz.H0 W Zw.p0 Zw.d21 [(.slice a1 m1 c1)] := by
  have ⟨rl0, rh0⟩ := r0
  exact Zw.fx Zw.t88 [] [] (Zw.k0 _) trivial Zw.i88 rfl rfl rowsHold_nil Zw.r88
theorem Zw.n22 {W : World} {n0 : Int} {a1 : Option Addr} {m1 c1 : Nat} {f1q0 : Nat → Int} (r0 : R64 n0) (h1 : SlcOk W a1 m1 c1 1 (fun i => [.int .i64 (f1q0 i)])) (b1 : (m1 : Int) < 9223372036854775808) (r1q0 : ∀ i, R64 (f1q0 i)) : NdGood Tryz.prog Tryz.f6 8 Tryz.H0 W Zw.p0 Zw.d22 [(.slice a1 m1 c1)] := by
  have ⟨rl0, rh0⟩ := r0
  exact Zw.fx Zw.t89 [] [] (Zw.k0 _) trivial Zw.i89 rfl rfl rowsHold_nil Zw.r89
theorem Zw.n23 {W : World} {n0 : Int} {a1 : Option Addr} {m1 c1 : Nat} {f1q0 : Nat → Int} (r0 : R64 n0) (h1 : SlcOk W a1 m1 c1 1 (fun i => [.int .i64 (f1q0 i)])) (b1 : (m1 : Int) < 9223372036854775808) (r1q0 : ∀ i, R64 (f1q0 i)) : NdGood Tryz.prog Tryz.f6 8 Tryz.H0 W Zw.p0 Zw.d23 [(.slice a1 m1 c1)] := by
  have ⟨rl0, rh0⟩ := r0
  exact Zw.fx Zw.t90 [] [] (Zw.k0 _) trivial Zw.i90 rfl rfl rowsHold_nil Zw.r90
theorem Zw.n9 {W : World} {n0 : Int} {a1 : Option Addr} {m1 c1 : Nat} {f1q0 : Nat → Int} (r0 : R64 n0) (h1 : SlcOk W a1 m1 c1 1 (fun i => [.int .i64 (f1q0 i)])) (b1 : (m1 : Int) < 9223372036854775808) (r1q0 : ∀ i, R64 (f1q0 i)) : NdGood Tryz.prog Tryz.f6 8 Tryz.H0 W Zw.p0 Zw.d9 [(.slice a1 m1 c1)] := by
  have ⟨rl0, rh0⟩ := r0
  by_cases q1 : (1 : Int) < (m1 : Int)
  ·
    have l2 : 1 < m1 := by omega
    obtain ⟨p2, v2⟩ := h1.elem l2
    have w2q0 := r1q0 1
    obtain ⟨d3, ⟨y3, e3, z3, u3, w3⟩, g3, o3⟩ := ex_rem (f1q0 1) (5 : Int) (by omega) (by omega)
    obtain ⟨d4, e4, g4, o4⟩ := ex_add d3 (5 : Int)
    obtain ⟨d5, ⟨y5, e5, z5, u5, w5⟩, g5, o5⟩ := ex_rem d4 (5 : Int) (by omega) (by omega)
    rcases (show d5 = 0 ∨ d5 = 1 ∨ d5 = 2 ∨ d5 = 3 ∨ d5 = 4 by omega) with k5 | k5 | k5 | k5 | k5
    ·
      exact Zw.nx Zw.t26 [(.int .i64 (f1q0 1)), (.int .i64 (m1 : Int)), (.int .i64 d3), (.int .i64 d4)] [p2] [(.slice a1 m1 c1)] (Zw.k0 _) ⟨hold_len (.atom _ _ rfl) (.atom _ _ rfl), hold_bool (.int _ _) (.atom _ _ rfl) (op_lss_t q1), hold_idx v2 l2 (.atom _ _ rfl) (.int _ _) (by omega) rfl, hold_op (.atom _ _ rfl) (.int _ _) (o3 .i64) (.atom _ _ rfl), hold_op (.atom _ _ rfl) (.int _ _) o4 (.atom _ _ rfl), hold_op (.atom _ _ rfl) (.int _ _) (by have := (o5 .i64); rw [k5] at this; exact this) (.int _ _), trivial⟩ Zw.i26 rfl rfl (rowsHold_cons (Elem.row v2 (VL.cons (.atom _ _ rfl) VL.nil)) rowsHold_nil) Zw.r26 rfl rfl (Zw.n19 r0 h1 b1 r1q0 )
    ·
      exact Zw.nx Zw.t27 [(.int .i64 (f1q0 1)), (.int .i64 (m1 : Int)), (.int .i64 d3), (.int .i64 d4)] [p2] [(.slice a1 m1 c1)] (Zw.k0 _) ⟨hold_len (.atom _ _ rfl) (.atom _ _ rfl), hold_bool (.int _ _) (.atom _ _ rfl) (op_lss_t q1), hold_idx v2 l2 (.atom _ _ rfl) (.int _ _) (by omega) rfl, hold_op (.atom _ _ rfl) (.int _ _) (o3 .i64) (.atom _ _ rfl), hold_op (.atom _ _ rfl) (.int _ _) o4 (.atom _ _ rfl), hold_op (.atom _ _ rfl) (.int _ _) (by have := (o5 .i64); rw [k5] at this; exact this) (.int _ _), trivial⟩ Zw.i27 rfl rfl (rowsHold_cons (Elem.row v2 (VL.cons (.atom _ _ rfl) VL.nil)) rowsHold_nil) Zw.r27 rfl rfl (Zw.n20 r0 h1 b1 r1q0 )
    ·
      exact Zw.nx Zw.t28 [(.int .i64 (f1q0 1)), (.int .i64 (m1 : Int)), (.int .i64 d3), (.int .i64 d4)] [p2] [(.slice a1 m1 c1)] (Zw.k0 _) ⟨hold_len (.atom _ _ rfl) (.atom _ _ rfl), hold_bool (.int _ _) (.atom _ _ rfl) (op_lss_t q1), hold_idx v2 l2 (.atom _ _ rfl) (.int _ _) (by omega) rfl, hold_op (.atom _ _ rfl) (.int _ _) (o3 .i64) (.atom _ _ rfl), hold_op (.atom _ _ rfl) (.int _ _) o4 (.atom _ _ rfl), hold_op (.atom _ _ rfl) (.int _ _) (by have := (o5 .i64); rw [k5] at this; exact this) (.int _ _), trivial⟩ Zw.i28 rfl rfl (rowsHold_cons (Elem.row v2 (VL.cons (.atom _ _ rfl) VL.nil)) rowsHold_nil) Zw.r28 rfl rfl (Zw.n21 r0 h1 b1 r1q0 )
    ·
      exact Zw.nx Zw.t29 [(.int .i64 (f1q0 1)), (.int .i64 (m1 : Int)), (.int .i64 d3), (.int .i64 d4)] [p2] [(.slice a1 m1 c1)] (Zw.k0 _) ⟨hold_len (.atom _ _ rfl) (.atom _ _ rfl), hold_bool (.int _ _) (.atom _ _ rfl) (op_lss_t q1), hold_idx v2 l2 (.atom _ _ rfl) (.int _ _) (by omega) rfl, hold_op (.atom _ _ rfl) (.int _ _) (o3 .i64) (.atom _ _ rfl), hold_op (.atom _ _ rfl) (.int _ _) o4 (.atom _ _ rfl), hold_op (.atom _ _ rfl) (.int _ _) (by have := (o5 .i64); rw [k5] at this; exact this) (.int _ _), trivial⟩ Zw.i29 rfl rfl (rowsHold_cons (Elem.row v2 (VL.cons (.atom _ _ rfl) VL.nil)) rowsHold_nil) Zw.r29 rfl rfl (Zw.n22 r0 h1 b1 r1q0 )
    ·
      exact Zw.nx Zw.t30 [(.int .i64 (f1q0 1)), (.int .i64 (m1 : Int)), (.int .i64 d3), (.int .i64 d4)] [p2] [(.slice a1 m1 c1)] (Zw.k0 _) ⟨hold_len (.atom _ _ rfl) (.atom _ _ rfl), hold_bool (.int _ _) (.atom _ _ rfl) (op_lss_t q1), hold_idx v2 l2 (.atom _ _ rfl) (.int _ _) (by omega) rfl, hold_op (.atom _ _ rfl) (.int _ _) (o3 .i64) (.atom _ _ rfl), hold_op (.atom _ _ rfl) (.int _ _) o4 (.atom _ _ rfl), hold_op (.atom _ _ rfl) (.int _ _) (by have := (o5 .i64); rw [k5] at this; exact this) (.int _ _), trivial⟩ Zw.i30 rfl rfl (rowsHold_cons (Elem.row v2 (VL.cons (.atom _ _ rfl) VL.nil)) rowsHold_nil) Zw.r30 rfl rfl (Zw.n23 r0 h1 b1 r1q0 )
  ·
    exact Zw.nx Zw.t31 [(.int .i64 (m1 : Int))] [] [(.slice a1 m1 c1)] (Zw.k0 _) ⟨hold_len (.atom _ _ rfl) (.atom _ _ rfl), hold_bool (.int _ _) (.atom _ _ rfl) (op_lss_f (Int.not_lt.1 q1)), trivial⟩ Zw.i31 rfl rfl rowsHold_nil Zw.r31 rfl rfl (Zw.n19 r0 h1 b1 r1q0 )
theorem Zw.n24 {W : World} {n0 : Int} {a1 : Option Addr} {m1 c1 : Nat} {f1q0 : Nat → Int} (r0 : R64 n0) (h1 : SlcOk W a1 m1 c1 1 (fun i => [.int .i64 (f1q0 i)])) (b1 : (m1 : Int) < 9223372036854775808) (r1q0 : ∀ i, R64 (f1q0 i)) : NdGood Tryz.prog Tryz.f6 8 Tryz.H0 W Zw.p0 Zw.d24 [(.slice a1 m1 c1)] := by
  have ⟨rl0, rh0⟩ := r0
  exact Zw.fx Zw.t91 [] [] (Zw.k0 _) trivial Zw.i91 rfl rfl rowsHold_nil Zw.r91
theorem Zw.n25 {W : World} {n0 : Int} {a1 : Option Addr} {m1 c1 : Nat} {f1q0 : Nat → Int} (r0 : R64 n0) (h1 : SlcOk W a1 m1 c1 1 (fun i => [.int .i64 (f1q0 i)])) (b1 : (m1 : Int) < 9223372036854775808) (r1q0 : ∀ i, R64 (f1q0 i)) : NdGood Tryz.prog Tryz.f6 8 Tryz.H0 W Zw.p0 Zw.d25 [(.slice a1 m1 c1)] := by
  have ⟨rl0, rh0⟩ := r0
  exact Zw.fx Zw.t92 [] [] (Zw.k0 _) trivial Zw.i92 rfl rfl rowsHold_nil Zw.r92
theorem Zw.n26 {W : World} {n0 : Int} {a1 : Option Addr} {m1 c1 : Nat} {f1q0 : Nat → Int} (r0 : R64 n0) (h1 : SlcOk W a1 m1 c1 1 (fun i => [.int .i64 (f1q0 i)])) (b1 : (m1 : Int) < 9223372036854775808) (r1q0 : ∀ i, R64 (f1q0 i)) : NdGood Tryz.prog Tryz.f6 8 Tryz.H0 W Zw.p0 Zw.d26 [(.slice a1 m1 c1)] := by
  have ⟨rl0, rh0⟩ := r0
  exact Zw.fx Zw.t93 [] [] (Zw.k0 _) trivial Zw.i93 rfl rfl rowsHold_nil Zw.r93
theorem Zw.n27 {W : World} {n0 : Int} {a1 : Option Addr} {m1 c1 : Nat} {f1q0 : Nat → Int} (r0 : R64 n0) (h1 : SlcOk W a1 m1 c1 1 (fun i => [.int .i64 (f1q0 i)])) (b1 : (m1 : Int) < 9223372036854775808) (r1q0 : ∀ i, R64 (f1q0 i)) : NdGood Tryz.prog Tryz.f6 8 Tryz.H0 W Zw.p0 Zw.d27 [(.slice a1 m1 c1)] := by
  have ⟨rl0, rh0⟩ := r0
  exact Zw.fx Zw.t94 [] [] (Zw.k0 _) trivial Zw.i94 rfl rfl rowsHold_nil Zw.r94
theorem Zw.n28 {W : World} {n0 : Int} {a1 : Option Addr} {m1 c1 : Nat} {f1q0 : Nat → Int} (r0 : R64 n0) (h1 : SlcOk W a1 m1 c1 1 (fun i => [.int .i64 (f1q0 i)])) (b1 : (m1 : Int) < 9223372036854775808) (r1q0 : ∀ i, R64 (f1q0 i)) : NdGood Tryz.prog Tryz.f6 8 Tryz.H0 W Zw.p0 Zw.d28 [(.slice a1 m1 c1)] := by
  have ⟨rl0, rh0⟩ := r0
  exact Zw.fx Zw.t95 [] [] (Zw.k0 _) trivial Zw.i95 rfl rfl rowsHold_nil Zw.r95
theorem Zw.n10 {W : World} {n0 : Int} {a1 : Option Addr} {m1 c1 : Nat} {f1q0 : Nat → Int} (r0 : R64 n0) (h1 : SlcOk W a1 m1 c1 1 (fun i => [.int .i64 (f1q0 i)])) (b1 : (m1 : Int) < 9223372036854775808) (r1q0 : ∀ i, R64 (f1q0 i)) : NdGood Tryz.prog Tryz.f6 8 Tryz.H0 W Zw.p0 Zw.d10 [(.slice a1 m1 c1)] := by
  have ⟨rl0, rh0⟩ := r0
  by_cases q1 : (1 : Int) < (m1 : Int)
  ·
    have l2 : 1 < m1 := by omega
    obtain ⟨p2, v2⟩ := h1.elem l2
    have w2q0 := r1q0 1
    obtain ⟨d3, ⟨y3, e3, z3, u3, w3⟩, g3, o3⟩ := ex_rem (f1q0 1) (5 : Int) (by omega) (by omega)
    obtain ⟨d4, e4, g4, o4⟩ := ex_add d3 (5 : Int)
    obtain ⟨d5, ⟨y5, e5, z5, u5, w5⟩, g5, o5⟩ := ex_rem d4 (5 : Int) (by omega) (by omega)
    rcases (show d5 = 0 ∨ d5 = 1 ∨ d5 = 2 ∨ d5 = 3 ∨ d5 = 4 by omega) with k5 | k5 | k5 | k5 | k5
    ·
      exact Zw.nx Zw.t32 [(.int .i64 (f1q0 1)), (.int .i64 (m1 : Int)), (.int .i64 d3), (.int .i64 d4)] [p2] [(.slice a1 m1 c1)] (Zw.k0 _) ⟨hold_len (.atom _ _ rfl) (.atom _ _ rfl), hold_bool (.int _ _) (.atom _ _ rfl) (op_lss_t q1), hold_idx v2 l2 (.atom _ _ rfl) (.int _ _) (by omega) rfl, hold_op (.atom _ _ rfl) (.int _ _) (o3 .i64) (.atom _ _ rfl), hold_op (.atom _ _ rfl) (.int _ _) o4 (.atom _ _ rfl), hold_op (.atom _ _ rfl) (.int _ _) (by have := (o5 .i64); rw [k5] at this; exact this) (.int _ _), trivial⟩ Zw.i32 rfl rfl (rowsHold_cons (Elem.row v2 (VL.cons (.atom _ _ rfl) VL.nil)) rowsHold_nil) Zw.r32 rfl rfl (Zw.n24 r0 h1 b1 r1q0 )
    ·
      exact Zw.nx Zw.t33 [(.int .i64 (f1q0 1)), (.int .i64 (m1 : Int)), (.int .i64 d3), (.int .i64 d4)] [p2] [(.slice a1 m1 c1)] (Zw.k0 _) ⟨hold_len (.atom _ _ rfl) (.atom _ _ rfl), hold_bool (.int _ _) (.atom _ _ rfl) (op_lss_t q1), hold_idx v2 l2 (.atom _ _ rfl) (.int _ _) (by omega) rfl, hold_op (.atom _ _ rfl) (.int _ _) (o3 .i64) (.atom _ _ rfl), hold_op (.atom _ _ rfl) (.int _ _) o4 (.atom _ _ rfl), hold_op (.atom _ _ rfl) (.int _ _) (by have := (o5 .i64); rw [k5] at this; exact this) (.int _ _), trivial⟩ Zw.i33 rfl rfl (rowsHold_cons (Elem.row v2 (VL.cons (.atom _ _ rfl) VL.nil)) rowsHold_nil) Zw.r33 rfl rfl (Zw.n25 r0 h1 b1 r1q0 )
    ·
      exact Zw.nx Zw.t34 [(.int .i64 (f1q0 1)), (.int .i64 (m1 : Int)), (.int .i64 d3), (.int .i64 d4)] [p2] [(.slice a1 m1 c1)] (Zw.k0 _) ⟨hold_len (.atom _ _ rfl) (.atom _ _ rfl), hold_bool (.int _ _) (.atom _ _ rfl) (op_lss_t q1), hold_idx v2 l2 (.atom _ _ rfl) (.int _ _) (by omega) rfl, hold_op (.atom _ _ rfl) (.int _ _) (o3 .i64) (.atom _ _ rfl), hold_op (.atom _ _ rfl) (.int _ _) o4 (.atom _ _ rfl), hold_op (.atom _ _ rfl) (.int _ _) (by have := (o5 .i64); rw [k5] at this; exact this) (.int _ _), trivial⟩ Zw.i34 rfl rfl (rowsHold_cons (Elem.row v2 (VL.cons (.atom _ _ rfl) VL.nil)) rowsHold_nil) Zw.r34 rfl rfl (Zw.n26 r0 h1 b1 r1q0 )
    ·
      exact Zw.nx Zw.t35 [(.int .i64 (f1q0 1)), (.int .i64 (m1 : Int)), (.int .i64 d3), (.int .i64 d4)] [p2] [(.slice a1 m1 c1)] (Zw.k0 _) ⟨hold_len (.atom _ _ rfl) (.atom _ _ rfl), hold_bool (.int _ _) (.atom _ _ rfl) (op_lss_t q1), hold_idx v2 l2 (.atom _ _ rfl) (.int _ _) (by omega) rfl, hold_op (.atom _ _ rfl) (.int _ _) (o3 .i64) (.atom _ _ rfl), hold_op (.atom _ _ rfl) (.int _ _) o4 (.atom _ _ rfl), hold_op (.atom _ _ rfl) (.int _ _) (by have := (o5 .i64); rw [k5] at this; exact this) (.int _ _), trivial⟩ Zw.i35 rfl rfl (rowsHold_cons (Elem.row v2 (VL.cons (.atom _ _ rfl) VL.nil)) rowsHold_nil) Zw.r35 rfl rfl (Zw.n27 r0 h1 b1 r1q0 )
    ·
      exact Zw.nx Zw.t36 [(.int .i64 (f1q0 1)), (.int .i64 (m1 : Int)), (.int .i64 d3), (.int .i64 d4)] [p2] [(.slice a1 m1 c1)] (Zw.k0 _) ⟨hold_len (.atom _ _ rfl) (.atom _ _ rfl), hold_bool (.int _ _) (.atom _ _ rfl) (op_lss_t q1), hold_idx v2 l2 (.atom _ _ rfl) (.int _ _) (by omega) rfl, hold_op (.atom _ _ rfl) (.int _ _) (o3 .i64) (.atom _ _ rfl), hold_op (.atom _ _ rfl) (.int _ _) o4 (.atom _ _ rfl), hold_op (.atom _ _ rfl) (.int _ _) (by have := (o5 .i64); rw [k5] at this; exact this) (.int _ _), trivial⟩ Zw.i36 rfl rfl (rowsHold_cons (Elem.row v2 (VL.cons (.atom _ _ rfl) VL.nil)) rowsHold_nil) Zw.r36 rfl rfl (Zw.n28 r0 h1 b1 r1q0 )
  ·
    exact Zw.nx Zw.t37 [(.int .i64 (m1 : Int))] [] [(.slice a1 m1 c1)] (Zw.k0 _) ⟨hold_len (.atom _ _ rfl) (.atom _ _ rfl), hold_bool (.int _ _) (.atom _ _ rfl) (op_lss_f (Int.not_lt.1 q1)), trivial⟩ Zw.i37 rfl rfl rowsHold_nil Zw.r37 rfl rfl (Zw.n24 r0 h1 b1 r1q0 )
theorem Zw.n32 {W : World} {n0 : Int} {a1 : Option Addr} {m1 c1 : Nat} {f1q0 : Nat → Int} (r0 : R64 n0) (h1 : SlcOk W a1 m1 c1 1 (fun i => [.int .i64 (f1q0 i)])) (b1 : (m1 : Int) < 9223372036854775808) (r1q0 : ∀ i, R64 (f1q0 i)) : NdGood Tryz.prog Tryz.f6 8 Tryz.H0 W Zw.p0 Zw.d32 [(.slice a1 m1 c1)] := by
  have ⟨rl0, rh0⟩ := r0
  exact Zw.fx Zw.t99 [] [] (Zw.k0 _) trivial Zw.i99 rfl rfl rowsHold_nil Zw.r99
theorem Zw.n33 {W : World} {n0 : Int} {a1 : Option Addr} {m1 c1 : Nat} {f1q0 : Nat → Int} (r0 : R64 n0) (h1 : SlcOk W a1 m1 c1 1 (fun i => [.int .i64 (f1q0 i)])) (b1 : (m1 : Int) < 9223372036854775808) (r1q0 : ∀ i, R64 (f1q0 i)) : NdGood Tryz.prog Tryz.f6 8 Tryz.H0 W Zw.p0 Zw.d33 [(.slice a1 m1 c1)] := by
  have ⟨rl0, rh0⟩ := r0
  exact Zw.fx Zw.t100 [] [] (Zw.k0 _) trivial Zw.i100 rfl rfl rowsHold_nil Zw.r100
theorem Zw.n29 {W : World} {n0 : Int} {a1 : Option Addr} {m1 c1 : Nat} {f1q0 : Nat → Int} (r0 : R64 n0) (h1 : SlcOk W a1 m1 c1 1 (fun i => [.int .i64 (f1q0 i)])) (b1 : (m1 : Int) < 9223372036854775808) (r1q0 : ∀ i, R64 (f1q0 i)) : NdGood Tryz.prog Tryz.f6 8 Tryz.H0 W Zw.p0 Zw.d29 [(.slice a1 m1 c1)] := by
  have ⟨rl0, rh0⟩ := r0
  exact Zw.fx Zw.t96 [] [] (Zw.k0 _) trivial Zw.i96 rfl rfl rowsHold_nil Zw.r96
theorem Zw.n30 {W : World} {n0 : Int} {a1 : Option Addr} {m1 c1 : Nat} {f1q0 : Nat → Int} (r0 : R64 n0) (h1 : SlcOk W a1 m1 c1 1 (fun i => [.int .i64 (f1q0 i)])) (b1 : (m1 : Int) < 9223372036854775808) (r1q0 : ∀ i, R64 (f1q0 i)) : NdGood Tryz.prog Tryz.f6 8 Tryz.H0 W Zw.p0 Zw.d30 [(.slice a1 m1 c1)] := by
  have ⟨rl0, rh0⟩ := r0
  exact Zw.fx Zw.t97 [] [] (Zw.k0 _) trivial Zw.i97 rfl rfl rowsHold_nil Zw.r97
theorem Zw.n31 {W : World} {n0 : Int} {a1 : Option Addr} {m1 c1 : Nat} {f1q0 : Nat → Int} (r0 : R64 n0) (h1 : SlcOk W a1 m1 c1 1 (fun i => [.int .i64 (f1q0 i)])) (b1 : (m1 : Int) < 9223372036854775808) (r1q0 : ∀ i, R64 (f1q0 i)) : NdGood Tryz.prog Tryz.f6 8 Tryz.H0 W Zw.p0 Zw.d31 [(.slice a1 m1 c1)] := by
  have ⟨rl0, rh0⟩ := r0
  exact Zw.fx Zw.t98 [] [] (Zw.k0 _) trivial Zw.i98 rfl rfl rowsHold_nil Zw.r98
theorem Zw.n11 {W : World} {n0 : Int} {a1 : Option Addr} {m1 c1 : Nat} {f1q0 : Nat → Int} (r0 : R64 n0) (h1 : SlcOk W a1 m1 c1 1 (fun i => [.int .i64 (f1q0 i)])) (b1 : (m1 : Int) < 9223372036854775808) (r1q0 : ∀ i, R64 (f1q0 i)) : NdGood Tryz.prog Tryz.f6 8 Tryz.H0 W Zw.p0 Zw.d11 [(.slice a1 m1 c1)] := by
  have ⟨rl0, rh0⟩ := r0
  by_cases q1 : (1 : Int) < (m1 : Int)
  ·
    have l2 : 1 < m1 := by omega
    obtain ⟨p2, v2⟩ := h1.elem l2
    have w2q0 := r1q0 1
    obtain ⟨d3, ⟨y3, e3, z3, u3, w3⟩, g3, o3⟩ := ex_rem (f1q0 1) (5 : Int) (by omega) (by omega)
    obtain ⟨d4, e4, g4, o4⟩ := ex_add d3 (5 : Int)
    obtain ⟨d5, ⟨y5, e5, z5, u5, w5⟩, g5, o5⟩ := ex_rem d4 (5 : Int) (by omega) (by omega)
    rcases (show d5 = 0 ∨ d5 = 1 ∨ d5 = 2 ∨ d5 = 3 ∨ d5 = 4 by omega) with k5 | k5 | k5 | k5 | k5
    ·
      exact Zw.nx Zw.t38 [(.int .i64 (f1q0 1)), (.int .i64 (m1 : Int)), (.int .i64 d3), (.int .i64 d4)] [p2] [(.slice a1 m1 c1)] (Zw.k0 _) ⟨hold_len (.atom _ _ rfl) (.atom _ _ rfl), hold_bool (.int _ _) (.atom _ _ rfl) (op_lss_t q1), hold_idx v2 l2 (.atom _ _ rfl) (.int _ _) (by omega) rfl, hold_op (.atom _ _ rfl) (.int _ _) (o3 .i64) (.atom _ _ rfl), hold_op (.atom _ _ rfl) (.int _ _) o4 (.atom _ _ rfl), hold_op (.atom _ _ rfl) (.int _ _) (by have := (o5 .i64); rw [k5] at this; exact this) (.int _ _), trivial⟩ Zw.i38 rfl rfl (rowsHold_cons (Elem.row v2 (VL.cons (.atom _ _ rfl) VL.nil)) rowsHold_nil) Zw.r38 rfl rfl (Zw.n29 r0 h1 b1 r1q0 )
    ·
      exact Zw.nx Zw.t39 [(.int .i64 (f1q0 1)), (.int .i64 (m1 : Int)), (.int .i64 d3), (.int .i64 d4)] [p2] [(.slice a1 m1 c1)] (Zw.k0 _) ⟨hold_len (.atom _ _ rfl) (.atom _ _ rfl), hold_bool (.int _ _) (.atom _ _ rfl) (op_lss_t q1), hold_idx v2 l2 (.atom _ _ rfl) (.int _ _) (by omega) rfl, hold_op (.atom _ _ rfl) (.int _ _) (o3 .i64) (.atom _ _ rfl), hold_op (.atom _ _ rfl) (.int _ _) o4 (.atom _ _ rfl), hold_op (.atom _ _ rfl) (.int _ _) (by have := (o5 .i64); rw [k5] at this; exact this) (.int _ _), trivial⟩ Zw.i39 rfl rfl (rowsHold_cons (Elem.row v2 (VL.cons (.atom _ _ rfl) VL.nil)) rowsHold_nil) Zw.r39 rfl rfl (Zw.n30 r0 h1 b1 r1q0 )
    ·
      exact Zw.nx Zw.t40 [(.int .i64 (f1q0 1)), (.int .i64 (m1 : Int)), (.int .i64 d3), (.int .i64 d4)] [p2] [(.slice a1 m1 c1)] (Zw.k0 _) ⟨hold_len (.atom _ _ rfl) (.atom _ _ rfl), hold_bool (.int _ _) (.atom _ _ rfl) (op_lss_t q1), hold_idx v2 l2 (.atom _ _ rfl) (.int _ _) (by omega) rfl, hold_op (.atom _ _ rfl) (.int _ _) (o3 .i64) (.atom _ _ rfl), hold_op (.atom _ _ rfl) (.int _ _) o4 (.atom _ _ rfl), hold_op (.atom _ _ rfl) (.int _ _) (by have := (o5 .i64); rw [k5] at this; exact this) (.int _ _), trivial⟩ Zw.i40 rfl rfl (rowsHold_cons (Elem.row v2 (VL.cons (.atom _ _ rfl) VL.nil)) rowsHold_nil) Zw.r40 rfl rfl (Zw.n31 r0 h1 b1 r1q0 )
    ·
      exact Zw.nx Zw.t41 [(.int .i64 (f1q0 1)), (.int .i64 (m1 : Int)), (.int .i64 d3), (.int .i64 d4)] [p2] [(.slice a1 m1 c1)] (Zw.k0 _) ⟨hold_len (.atom _ _ rfl) (.atom _ _ rfl), hold_bool (.int _ _) (.atom _ _ rfl) (op_lss_t q1), hold_idx v2 l2 (.atom _ _ rfl) (.int _ _) (by omega) rfl, hold_op (.atom _ _ rfl) (.int _ _) (o3 .i64) (.atom _ _ rfl), hold_op (.atom _ _ rfl) (.int _ _) o4 (.atom _ _ rfl), hold_op (.atom _ _ rfl) (.int _ _) (by have := (o5 .i64); rw [k5] at this; exact this) (.int _ _), trivial⟩ Zw.i41 rfl rfl (rowsHold_cons (Elem.row v2 (VL.cons (.atom _ _ rfl) VL.nil)) rowsHold_nil) Zw.r41 rfl rfl (Zw.n32 r0 h1 b1 r1q0 )
    ·
      exact Zw.nx Zw.t42 [(.int .i64 (f1q0 1)), (.int .i64 (m1 : Int)), (.int .i64 d3), (.int .i64 d4)] [p2] [(.slice a1 m1 c1)] (Zw.k0 _) ⟨hold_len (.atom _ _ rfl) (.atom _ _ rfl), hold_bool (.int _ _) (.atom _ _ rfl) (op_lss_t q1), hold_idx v2 l2 (.atom _ _ rfl) (.int _ _) (by omega) rfl, hold_op (.atom _ _ rfl) (.int _ _) (o3 .i64) (.atom _ _ rfl), hold_op (.atom _ _ rfl) (.int _ _) o4 (.atom _ _ rfl), hold_op (.atom _ _ rfl) (.int _ _) (by have := (o5 .i64); rw [k5] at this; exact this) (.int _ _), trivial⟩ Zw.i42 rfl rfl (rowsHold_cons (Elem.row v2 (VL.cons (.atom _ _ rfl) VL.nil)) rowsHold_nil) Zw.r42 rfl rfl (Zw.n33 r0 h1 b1 r1q0 )
  ·
    exact Zw.nx Zw.t43 [(.int .i64 (m1 : Int))] [] [(.slice a1 m1 c1)] (Zw.k0 _) ⟨hold_len (.atom _ _ rfl) (.atom _ _ rfl), hold_bool (.int _ _) (.atom _ _ rfl) (op_lss_f (Int.not_lt.1 q1)), trivial⟩ Zw.i43 rfl rfl rowsHold_nil Zw.r43 rfl rfl (Zw.n29 r0 h1 b1 r1q0 )
theorem Zw.n34 {W : World} {n0 : Int} {a1 : Option Addr} {m1 c1 : Nat} {f1q0 : Nat → Int} (r0 : R64 n0) (h1 : SlcOk W a1 m1 c1 1 (fun i => [.int .i64 (f1q0 i)])) (b1 : (m1 : Int) < 9223372036854775808) (r1q0 : ∀ i, R64 (f1q0 i)) : NdGood Tryz.prog Tryz.f6 8 Tryz.H0 W Zw.p0 Zw.d34 [(.slice a1 m1 c1)] := by
  have ⟨rl0, rh0⟩ := r0
  exact Zw.fx Zw.t101 [] [] (Zw.k0 _) trivial Zw.i101 rfl rfl rowsHold_nil Zw.r101
theorem Zw.n35 {W : World} {n0 : Int} {a1 : Option Addr} {m1 c1 : Nat} {f1q0 : Nat → Int} (r0 : R64 n0) (h1 : SlcOk W a1 m1 c1 1 (fun i => [.int .i64 (f1q0 i)])) (b1 : (m1 : Int) < 9223372036854775808) (r1q0 : ∀ i, R64 (f1q0 i)) : NdGood Tryz.prog Tryz.f6 8 Tryz.H0 W Zw.p0 Zw.d35 [(.slice a1 m1 c1)] := by
  have ⟨rl0, rh0⟩ := r0
  exact Zw.fx Zw.t102 [] [] (Zw.k0 _) trivial Zw.i102 rfl rfl rowsHold_nil Zw.r102
theorem Zw.n36 {W : World} {n0 : Int} {a1 : Option Addr} {m1 c1 : Nat} {f1q0 : Nat → Int} (r0 : R64 n0) (h1 : SlcOk W a1 m1 c1 1 (fun i => [.int .i64 (f1q0 i)])) (b1 : (m1 : Int) < 9223372036854775808) (r1q0 : ∀ i, R64 (f1q0 i)) : NdGood Tryz.prog Tryz.f6 8 Tryz.H0 W Zw.p0 Zw.d36 [(.slice a1 m1 c1)] := by
  have ⟨rl0, rh0⟩ := r0
  exact Zw.fx Zw.t103 [] [] (Zw.k0 _) trivial Zw.i103 rfl rfl rowsHold_nil Zw.r103
theorem Zw.n37 {W : World} {n0 : Int} {a1 : Option Addr} {m1 c1 : Nat} {f1q0 : Nat → Int} (r0 : R64 n0) (h1 : SlcOk W a1 m1 c1 1 (fun i => [.int .i64 (f1q0 i)])) (b1 : (m1 : Int) < 9223372036854775808) (r1q0 : ∀ i, R64 (f1q0 i)) : NdGood Tryz.prog Tryz.f6 8 Tryz.H0 W Zw.p0 Zw.d37 [(.slice a1 m1 c1)] := by
  have ⟨rl0, rh0⟩ := r0
  exact Zw.fx Zw.t104 [] [] (Zw.k0 _) trivial Zw.i104 rfl rfl rowsHold_nil Zw.r104
theorem Zw.n38 {W : World} {n0 : Int} {a1 : Option Addr} {m1 c1 : Nat} {f1q0 : Nat → Int} (r0 : R64 n0) (h1 : SlcOk W a1 m1 c1 1 (fun i => [.int .i64 (f1q0 i)])) (b1 : (m1 : Int) < 9223372036854775808) (r1q0 : ∀ i, R64 (f1q0 i)) : NdGood Tryz.prog Tryz.f6 8 Tryz.H0 W Zw.p0 Zw.d38 [(.slice a1 m1 c1)] := by
  have ⟨rl0, rh0⟩ := r0
  exact Zw.fx Zw.t105 [] [] (Zw.k0 _) trivial Zw.i105 rfl rfl rowsHold_nil Zw.r105
theorem Zw.n12 {W : World} {n0 : Int} {a1 : Option Addr} {m1 c1 : Nat} {f1q0 : Nat → Int} (r0 : R64 n0) (h1 : SlcOk W a1 m1 c1 1 (fun i => [.int .i64 (f1q0 i)])) (b1 : (m1 : Int) < 9223372036854775808) (r1q0 : ∀ i, R64 (f1q0 i)) : NdGood Tryz.prog Tryz.f6 8 Tryz.H0 W Zw.p0 Zw.d12 [(.slice a1 m1 c1)] := by
  have ⟨rl0, rh0⟩ := r0
  by_cases q1 : (1 : Int) < (m1 : Int)
  ·
    have l2 : 1 < m1 := by omega
    obtain ⟨p2, v2⟩ := h1.elem l2
    have w2q0 := r1q0 1
    obtain ⟨d3, ⟨y3, e3, z3, u3, w3⟩, g3, o3⟩ := ex_rem (f1q0 1) (5 : Int) (by omega) (by omega)
    obtain ⟨d4, e4, g4, o4⟩ := ex_add d3 (5 : Int)
    obtain ⟨d5, ⟨y5, e5, z5, u5, w5⟩, g5, o5⟩ := ex_rem d4 (5 : Int) (by omega) (by omega)
    rcases (show d5 = 0 ∨ d5 = 1 ∨ d5 = 2 ∨ d5 = 3 ∨ d5 = 4 by omega) with k5 | k5 | k5 | k5 | k5
    ·
      exact Zw.nx Zw.t44 [(.int .i64 (f1q0 1)), (.int .i64 (m1 : Int)), (.int .i64 d3), (.int .i64 d4)] [p2] [(.slice a1 m1 c1)] (Zw.k0 _) ⟨hold_len (.atom _ _ rfl) (.atom _ _ rfl), hold_bool (.int _ _) (.atom _ _ rfl) (op_lss_t q1), hold_idx v2 l2 (.atom _ _ rfl) (.int _ _) (by omega) rfl, hold_op (.atom _ _ rfl) (.int _ _) (o3 .i64) (.atom _ _ rfl), hold_op (.atom _ _ rfl) (.int _ _) o4 (.atom _ _ rfl), hold_op (.atom _ _ rfl) (.int _ _) (by have := (o5 .i64); rw [k5] at this; exact this) (.int _ _), trivial⟩ Zw.i44 rfl rfl (rowsHold_cons (Elem.row v2 (VL.cons (.atom _ _ rfl) VL.nil)) rowsHold_nil) Zw.r44 rfl rfl (Zw.n34 r0 h1 b1 r1q0 )
    ·
      exact Zw.nx Zw.t45 [(.int .i64 (f1q0 1)), (.int .i64 (m1 : Int)), (.int .i64 d3), (.int .i64 d4)] [p2] [(.slice a1 m1 c1)] (Zw.k0 _) ⟨hold_len (.atom _ _ rfl) (.atom _ _ rfl), hold_bool (.int _ _) (.atom _ _ rfl) (op_lss_t q1), hold_idx v2 l2 (.atom _ _ rfl) (.int _ _) (by omega) rfl, hold_op (.atom _ _ rfl) (.int _ _) (o3 .i64) (.atom _ _ rfl), hold_op (.atom _ _ rfl) (.int _ _) o4 (.atom _ _ rfl), hold_op (.atom _ _ rfl) (.int _ _) (by have := (o5 .i64); rw [k5] at this; exact this) (.int _ _), trivial⟩ Zw.i45 rfl rfl (rowsHold_cons (Elem.row v2 (VL.cons (.atom _ _ rfl) VL.nil)) rowsHold_nil) Zw.r45 rfl rfl (Zw.n35 r0 h1 b1 r1q0 )
    ·
      exact Zw.nx Zw.t46 [(.int .i64 (f1q0 1)), (.int .i64 (m1 : Int)), (.int .i64 d3), (.int .i64 d4)] [p2] [(.slice a1 m1 c1)] (Zw.k0 _) ⟨hold_len (.atom _ _ rfl) (.atom _ _ rfl), hold_bool (.int _ _) (.atom _ _ rfl) (op_lss_t q1), hold_idx v2 l2 (.atom _ _ rfl) (.int _ _) (by omega) rfl, hold_op (.atom _ _ rfl) (.int _ _) (o3 .i64) (.atom _ _ rfl), hold_op (.atom _ _ rfl) (.int _ _) o4 (.atom _ _ rfl), hold_op (.atom _ _ rfl) (.int _ _) (by have := (o5 .i64); rw [k5] at this; exact this) (.int _ _), trivial⟩ Zw.i46 rfl rfl (rowsHold_cons (Elem.row v2 (VL.cons (.atom _ _ rfl) VL.nil)) rowsHold_nil) Zw.r46 rfl rfl (Zw.n36 r0 h1 b1 r1q0 )
    ·
      exact Zw.nx Zw.t47 [(.int .i64 (f1q0 1)), (.int .i64 (m1 : Int)), (.int .i64 d3), (.int .i64 d4)] [p2] [(.slice a1 m1 c1)] (Zw.k0 _) ⟨hold_len (.atom _ _ rfl) (.atom _ _ rfl), hold_bool (.int _ _) (.atom _ _ rfl) (op_lss_t q1), hold_idx v2 l2 (.atom _ _ rfl) (.int _ _) (by omega) rfl, hold_op (.atom _ _ rfl) (.int _ _) (o3 .i64) (.atom _ _ rfl), hold_op (.atom _ _ rfl) (.int _ _) o4 (.atom _ _ rfl), hold_op (.atom _ _ rfl) (.int _ _) (by have := (o5 .i64); rw [k5] at this; exact this) (.int _ _), trivial⟩ Zw.i47 rfl rfl (rowsHold_cons (Elem.row v2 (VL.cons (.atom _ _ rfl) VL.nil)) rowsHold_nil) Zw.r47 rfl rfl (Zw.n37 r0 h1 b1 r1q0 )
    ·
      exact Zw.nx Zw.t48 [(.int .i64 (f1q0 1)), (.int .i64 (m1 : Int)), (.int .i64 d3), (.int .i64 d4)] [p2] [(.slice a1 m1 c1)] (Zw.k0 _) ⟨hold_len (.atom _ _ rfl) (.atom _ _ rfl), hold_bool (.int _ _) (.atom _ _ rfl) (op_lss_t q1), hold_idx v2 l2 (.atom _ _ rfl) (.int _ _) (by omega) rfl, hold_op (.atom _ _ rfl) (.int _ _) (o3 .i64) (.atom _ _ rfl), hold_op (.atom _ _ rfl) (.int _ _) o4 (.atom _ _ rfl), hold_op (.atom _ _ rfl) (.int _ _) (by have := (o5 .i64); rw [k5] at this; exact this) (.int _ _), trivial⟩ Zw.i48 rfl rfl (rowsHold_cons (Elem.row v2 (VL.cons (.atom _ _ rfl) VL.nil)) rowsHold_nil) Zw.r48 rfl rfl (Zw.n38 r0 h1 b1 r1q0 )
  ·
    exact Zw.nx Zw.t49 [(.int .i64 (m1 : Int))] [] [(.slice a1 m1 c1)] (Zw.k0 _) ⟨hold_len (.atom _ _ rfl) (.atom _ _ rfl), hold_bool (.int _ _) (.atom _ _ rfl) (op_lss_f (Int.not_lt.1 q1)), trivial⟩ Zw.i49 rfl rfl rowsHold_nil Zw.r49 rfl rfl (Zw.n34 r0 h1 b1 r1q0 )
theorem Zw.n39 {W : World} {n0 : Int} {a1 : Option Addr} {m1 c1 : Nat} {f1q0 : Nat → Int} (r0 : R64 n0) (h1 : SlcOk W a1 m1 c1 1 (fun i => [.int .i64 (f1q0 i)])) (b1 : (m1 : Int) < 9223372036854775808) (r1q0 : ∀ i, R64 (f1q0 i)) : NdGood Tryz.prog Tryz.f6 8 Tryz.H0 W Zw.p0 Zw.d39 [(.slice a1 m1 c1)] := by
  have ⟨rl0, rh0⟩ := r0
  exact Zw.fx Zw.t106 [] [] (Zw.k0 _) trivial Zw.i106 rfl rfl rowsHold_nil Zw.r106
theorem Zw.n40 {W : World} {n0 : Int} {a1 : Option Addr} {m1 c1 : Nat} {f1q0 : Nat → Int} (r0 : R64 n0) (h1 : SlcOk W a1 m1 c1 1 (fun i => [.int .i64 (f1q0 i)])) (b1 : (m1 : Int) < 9223372036854775808) (r1q0 : ∀ i, R64 (f1q0 i)) : NdGood Tryz.prog Tryz.f6 8 Tryz.H0 W Zw.p0 Zw.d40 [(.slice a1 m1 c1)] := by
  have ⟨rl0, rh0⟩ := r0
  exact Zw.fx Zw.t107 [] [] (Zw.k0 _) trivial Zw.i107 rfl rfl rowsHold_nil Zw.r107
theorem Zw.n41 {W : World} {n0 : Int} {a1 : Option Addr} {m1 c1 : Nat} {f1q0 : Nat → Int} (r0 : R64 n0) (h1 : SlcOk W a1 m1 c1 1 (fun i => [.int .i64 (f1q0 i)])) (b1 : (m1 : Int) < 9223372036854775808) (r1q0 : ∀ i, R64 (f1q0 i)) : NdGood Tryz.prog Tryz.f6 8 Tryz.H0 W Zw.p0 Zw.d41 [(.slice a1 m1 c1)] := by
  have ⟨rl0, rh0⟩ := r0
  exact Zw.fx Zw.t108 [] [] (Zw.k0 _) trivial Zw.i108 rfl rfl rowsHold_nil Zw.r108
theorem Zw.n42 {W : World} {n0 : Int} {a1 : Option Addr} {m1 c1 : Nat} {f1q0 : Nat → Int} (r0 : R64 n0) (h1 : SlcOk W a1 m1 c1 1 (fun i => [.int .i64 (f1q0 i)])) (b1 : (m1 : Int) < 9223372036854775808) (r1q0 : ∀ i, R64 (f1q0 i)) : NdGood Tryz.prog Tryz.f6 8 Tryz.H0 W Zw.p0 Zw.d42 [(.slice a1 m1 c1)] := by
  have ⟨rl0, rh0⟩ := r0
  exact Zw.fx Zw.t109 [] [] (Zw.k0 _) trivial Zw.i109 rfl rfl rowsHold_nil Zw.r109
theorem Zw.n43 {W : World} {n0 : Int} {a1 : Option Addr} {m1 c1 : Nat} {f1q0 : Nat → Int} (r0 : R64 n0) (h1 : SlcOk W a1 m1 c1 1 (fun i => [.int .i64 (f1q0 i)])) (b1 : (m1 : Int) < 9223372036854775808) (r1q0 : ∀ i, R64 (f1q0 i)) : NdGood Tryz.prog Tryz.f6 8 Tryz.H0 W Zw.p0 Zw.d43 [(.slice a1 m1 c1)] := by
  have ⟨rl0, rh0⟩ := r0
  exact Zw.fx Zw.t110 [] [] (Zw.k0 _) trivial Zw.i110 rfl rfl rowsHold_nil Zw.r110
theorem Zw.n13 {W : World} {n0 : Int} {a1 : Option Addr} {m1 c1 : Nat} {f1q0 : Nat → Int} (r0 : R64 n0) (h1 : SlcOk W a1 m1 c1 1 (fun i => [.int .i64 (f1q0 i)])) (b1 : (m1 : Int) < 9223372036854775808) (r1q0 : ∀ i, R64 (f1q0 i)) : NdGood Tryz.prog Tryz.f6 8 Tryz.H0 W Zw.p0 Zw.d13 [(.slice a1 m1 c1)] := by
  have ⟨rl0, rh0⟩ := r0
  by_cases q1 : (1 : Int) < (m1 : Int)
  ·
    have l2 : 1 < m1 := by omega
    obtain ⟨p2, v2⟩ := h1.elem l2
    have w2q0 := r1q0 1
    obtain ⟨d3, ⟨y3, e3, z3, u3, w3⟩, g3, o3⟩ := ex_rem (f1q0 1) (5 : Int) (by omega) (by omega)
    obtain ⟨d4, e4, g4, o4⟩ := ex_add d3 (5 : Int)
    obtain ⟨d5, ⟨y5, e5, z5, u5, w5⟩, g5, o5⟩ := ex_rem d4 (5 : Int) (by omega) (by omega)
    rcases (show d5 = 0 ∨ d5 = 1 ∨ d5 = 2 ∨ d5 = 3 ∨ d5 = 4 by omega) with k5 | k5 | k5 | k5 | k5
    ·
      exact Zw.nx Zw.t50 [(.int .i64 (f1q0 1)), (.int .i64 (m1 : Int)), (.int .i64 d3), (.int .i64 d4)] [p2] [(.slice a1 m1 c1)] (Zw.k0 _) ⟨hold_len (.atom _ _ rfl) (.atom _ _ rfl), hold_bool (.int _ _) (.atom _ _ rfl) (op_lss_t q1), hold_idx v2 l2 (.atom _ _ rfl) (.int _ _) (by omega) rfl, hold_op (.atom _ _ rfl) (.int _ _) (o3 .i64) (.atom _ _ rfl), hold_op (.atom _ _ rfl) (.int _ _) o4 (.atom _ _ rfl), hold_op (.atom _ _ rfl) (.int _ _) (by have := (o5 .i64); rw [k5] at this; exact this) (.int _ _), trivial⟩ Zw.i50 rfl rfl (rowsHold_cons (Elem.row v2 (VL.cons (.atom _ _ rfl) VL.nil)) rowsHold_nil) Zw.r50 rfl rfl (Zw.n39 r0 h1 b1 r1q0 )
    ·
      exact Zw.nx Zw.t51 [(.int .i64 (f1q0 1)), (.int .i64 (m1 : Int)), (.int .i64 d3), (.int .i64 d4)] [p2] [(.slice a1 m1 c1)] (Zw.k0 _) ⟨hold_len (.atom _ _ rfl) (.atom _ _ rfl), hold_bool (.int _ _) (.atom _ _ rfl) (op_lss_t q1), hold_idx v2 l2 (.atom _ _ rfl) (.int _ _) (by omega) rfl, hold_op (.atom _ _ rfl) (.int _ _) (o3 .i64) (.atom _ _ rfl), hold_op (.atom _ _ rfl) (.int _ _) o4 (.atom _ _ rfl), hold_op (.atom _ _ rfl) (.int _ _) (by have := (o5 .i64); rw [k5] at this; exact this) (.int _ _), trivial⟩ Zw.i51 rfl rfl (rowsHold_cons (Elem.row v2 (VL.cons (.atom _ _ rfl) VL.nil)) rowsHold_nil) Zw.r51 rfl rfl (Zw.n40 r0 h1 b1 r1q0 )
    ·
      exact Zw.nx Zw.t52 [(.int .i64 (f1q0 1)), (.int .i64 (m1 : Int)), (.int .i64 d3), (.int .i64 d4)] [p2] [(.slice a1 m1 c1)] (Zw.k0 _) ⟨hold_len (.atom _ _ rfl) (.atom _ _ rfl), hold_bool (.int _ _) (.atom _ _ rfl) (op_lss_t q1), hold_idx v2 l2 (.atom _ _ rfl) (.int _ _) (by omega) rfl, hold_op (.atom _ _ rfl) (.int _ _) (o3 .i64) (.atom _ _ rfl), hold_op (.atom _ _ rfl) (.int _ _) o4 (.atom _ _ rfl), hold_op (.atom _ _ rfl) (.int _ _) (by have := (o5 .i64); rw [k5] at this; exact this) (.int _ _), trivial⟩ Zw.i52 rfl rfl (rowsHold_cons (Elem.row v2 (VL.cons (.atom _ _ rfl) VL.nil)) rowsHold_nil) Zw.r52 rfl rfl (Zw.n41 r0 h1 b1 r1q0 )
    ·
      exact Zw.nx Zw.t53 [(.int .i64 (f1q0 1)), (.int .i64 (m1 : Int)), (.int .i64 d3), (.int .i64 d4)] [p2] [(.slice a1 m1 c1)] (Zw.k0 _) ⟨hold_len (.atom _ _ rfl) (.atom _ _ rfl), hold_bool (.int _ _) (.atom _ _ rfl) (op_lss_t q1), hold_idx v2 l2 (.atom _ _ rfl) (.int _ _) (by omega) rfl, hold_op (.atom _ _ rfl) (.int _ _) (o3 .i64) (.atom _ _ rfl), hold_op (.atom _ _ rfl) (.int _ _) o4 (.atom _ _ rfl), hold_op (.atom _ _ rfl) (.int _ _) (by have := (o5 .i64); rw [k5] at this; exact this) (.int _ _), trivial⟩ Zw.i53 rfl rfl (rowsHold_cons (Elem.row v2 (VL.cons (.atom _ _ rfl) VL.nil)) rowsHold_nil) Zw.r53 rfl rfl (Zw.n42 r0 h1 b1 r1q0 )
    ·
      exact Zw.nx Zw.t54 [(.int .i64 (f1q0 1)), (.int .i64 (m1 : Int)), (.int .i64 d3), (.int .i64 d4)] [p2] [(.slice a1 m1 c1)] (Zw.k0 _) ⟨hold_len (.atom _ _ rfl) (.atom _ _ rfl), hold_bool (.int _ _) (.atom _ _ rfl) (op_lss_t q1), hold_idx v2 l2 (.atom _ _ rfl) (.int _ _) (by omega) rfl, hold_op (.atom _ _ rfl) (.int _ _) (o3 .i64) (.atom _ _ rfl), hold_op (.atom _ _ rfl) (.int _ _) o4 (.atom _ _ rfl), hold_op (.atom _ _ rfl) (.int _ _) (by have := (o5 .i64); rw [k5] at this; exact this) (.int _ _), trivial⟩ Zw.i54 rfl rfl (rowsHold_cons (Elem.row v2 (VL.cons (.atom _ _ rfl) VL.nil)) rowsHold_nil) Zw.r54 rfl rfl (Zw.n43 r0 h1 b1 r1q0 )
  ·
    exact Zw.nx Zw.t55 [(.int .i64 (m1 : Int))] [] [(.slice a1 m1 c1)] (Zw.k0 _) ⟨hold_len (.atom _ _ rfl) (.atom _ _ rfl), hold_bool (.int _ _) (.atom _ _ rfl) (op_lss_f (Int.not_lt.1 q1)), trivial⟩ Zw.i55 rfl rfl rowsHold_nil Zw.r55 rfl rfl (Zw.n39 r0 h1 b1 r1q0 )
theorem Zw.n2 {W : World} {n0 : Int} {a1 : Option Addr} {m1 c1 : Nat} {f1q0 : Nat → Int} (r0 : R64 n0) (h1 : SlcOk W a1 m1 c1 1 (fun i => [.int .i64 (f1q0 i)])) (b1 : (m1 : Int) < 9223372036854775808) (r1q0 : ∀ i, R64 (f1q0 i)) : NdGood Tryz.prog Tryz.f6 8 Tryz.H0 W Zw.p0 Zw.d2 [(.slice a1 m1 c1)] := by
  have ⟨rl0, rh0⟩ := r0
  by_cases q1 : (0 : Int) < (m1 : Int)
  ·
    have l2 : 0 < m1 := by omega
    obtain ⟨p2, v2⟩ := h1.elem l2
    have w2q0 := r1q0 0
    obtain ⟨d3, ⟨y3, e3, z3, u3, w3⟩, g3, o3⟩ := ex_rem (f1q0 0) (5 : Int) (by omega) (by omega)
    obtain ⟨d4, e4, g4, o4⟩ := ex_add d3 (5 : Int)
    obtain ⟨d5, ⟨y5, e5, z5, u5, w5⟩, g5, o5⟩ := ex_rem d4 (5 : Int) (by omega) (by omega)
    rcases (show d5 = 0 ∨ d5 = 1 ∨ d5 = 2 ∨ d5 = 3 ∨ d5 = 4 by omega) with k5 | k5 | k5 | k5 | k5
    ·
      exact Zw.nx Zw.t9 [(.int .i64 (f1q0 0)), (.int .i64 (m1 : Int)), (.int .i64 d3), (.int .i64 d4)] [p2] [(.slice a1 m1 c1)] (Zw.k0 _) ⟨hold_len (.atom _ _ rfl) (.atom _ _ rfl), hold_bool (.int _ _) (.atom _ _ rfl) (op_lss_t q1), hold_idx v2 l2 (.atom _ _ rfl) (.int _ _) (by omega) rfl, hold_op (.atom _ _ rfl) (.int _ _) (o3 .i64) (.atom _ _ rfl), hold_op (.atom _ _ rfl) (.int _ _) o4 (.atom _ _ rfl), hold_op (.atom _ _ rfl) (.int _ _) (by have := (o5 .i64); rw [k5] at this; exact this) (.int _ _), trivial⟩ Zw.i9 rfl rfl (rowsHold_cons (Elem.row v2 (VL.cons (.atom _ _ rfl) VL.nil)) rowsHold_nil) Zw.r9 rfl rfl (Zw.n9 r0 h1 b1 r1q0 )
    ·
      exact Zw.nx Zw.t10 [(.int .i64 (f1q0 0)), (.int .i64 (m1 : Int)), (.int .i64 d3), (.int .i64 d4)] [p2] [(.slice a1 m1 c1)] (Zw.k0 _) ⟨hold_len (.atom _ _ rfl) (.atom _ _ rfl), hold_bool (.int _ _) (.atom _ _ rfl) (op_lss_t q1), hold_idx v2 l2 (.atom _ _ rfl) (.int _ _) (by omega) rfl, hold_op (.atom _ _ rfl) (.int _ _) (o3 .i64) (.atom _ _ rfl), hold_op (.atom _ _ rfl) (.int _ _) o4 (.atom _ _ rfl), hold_op (.atom _ _ rfl) (.int _ _) (by have := (o5 .i64); rw [k5] at this; exact this) (.int _ _), trivial⟩ Zw.i10 rfl rfl (rowsHold_cons (Elem.row v2 (VL.cons (.atom _ _ rfl) VL.nil)) rowsHold_nil) Zw.r10 rfl rfl (Zw.n10 r0 h1 b1 r1q0 )
    ·
      exact Zw.nx Zw.t11 [(.int .i64 (f1q0 0)), (.int .i64 (m1 : Int)), (.int .i64 d3), (.int .i64 d4)] [p2] [(.slice a1 m1 c1)] (Zw.k0 _) ⟨hold_len (.atom _ _ rfl) (.atom _ _ rfl), hold_bool (.int _ _) (.atom _ _ rfl) (op_lss_t q1), hold_idx v2 l2 (.atom _ _ rfl) (.int _ _) (by omega) rfl, hold_op (.atom _ _ rfl) (.int _ _) (o3 .i64) (.atom _ _ rfl), hold_op (.atom _ _ rfl) (.int _ _) o4 (.atom _ _ rfl), hold_op (.atom _ _ rfl) (.int _ _) (by have := (o5 .i64); rw [k5] at this; exact this) (.int _ _), trivial⟩ Zw.i11 rfl rfl (rowsHold_cons (Elem.row v2 (VL.cons (.atom _ _ rfl) VL.nil)) rowsHold_nil) Zw.r11 rfl rfl (Zw.n11 r0 h1 b1 r1q0 )
    ·
      exact Zw.nx Zw.t12 [(.int .i64 (f1q0 0)), (.int .i64 (m1 : Int)), (.int .i64 d3), (.int .i64 d4)] [p2] [(.slice a1 m1 c1)] (Zw.k0 _) ⟨hold_len (.atom _ _ rfl) (.atom _ _ rfl), hold_bool (.int _ _) (.atom _ _ rfl) (op_lss_t q1), hold_idx v2 l2 (.atom _ _ rfl) (.int _ _) (by omega) rfl, hold_op (.atom _ _ rfl) (.int _ _) (o3 .i64) (.atom _ _ rfl), hold_op (.atom _ _ rfl) (.int _ _) o4 (.atom _ _ rfl), hold_op (.atom _ _ rfl) (.int _ _) (by have := (o5 .i64); rw [k5] at this; exact this) (.int _ _), trivial⟩ Zw.i12 rfl rfl (rowsHold_cons (Elem.row v2 (VL.cons (.atom _ _ rfl) VL.nil)) rowsHold_nil) Zw.r12 rfl rfl (Zw.n12 r0 h1 b1 r1q0 )
    ·
      exact Zw.nx Zw.t13 [(.int .i64 (f1q0 0)), (.int .i64 (m1 : Int)), (.int .i64 d3), (.int .i64 d4)] [p2] [(.slice a1 m1 c1)] (Zw.k0 _) ⟨hold_len (.atom _ _ rfl) (.atom _ _ rfl), hold_bool (.int _ _) (.atom _ _ rfl) (op_lss_t q1), hold_idx v2 l2 (.atom _ _ rfl) (.int _ _) (by omega) rfl, hold_op (.atom _ _ rfl) (.int _ _) (o3 .i64) (.atom _ _ rfl), hold_op (.atom _ _ rfl) (.int _ _) o4 (.atom _ _ rfl), hold_op (.atom _ _ rfl) (.int _ _) (by have := (o5 .i64); rw [k5] at this; exact this) (.int _ _), trivial⟩ Zw.i13 rfl rfl (rowsHold_cons (Elem.row v2 (VL.cons (.atom _ _ rfl) VL.nil)) rowsHold_nil) Zw.r13 rfl rfl (Zw.n13 r0 h1 b1 r1q0 )
  ·
    exact Zw.nx Zw.t14 [(.int .i64 (m1 : Int))] [] [(.slice a1 m1 c1)] (Zw.k0 _) ⟨hold_len (.atom _ _ rfl) (.atom _ _ rfl), hold_bool (.int _ _) (.atom _ _ rfl) (op_lss_f (Int.not_lt.1 q1)), trivial⟩ Zw.i14 rfl rfl rowsHold_nil Zw.r14 rfl rfl (Zw.n9 r0 h1 b1 r1q0 )
theorem Zw.n69 {W : World} {n0 : Int} {a1 : Option Addr} {m1 c1 : Nat} {f1q0 : Nat → Int} (r0 : R64 n0) (h1 : SlcOk W a1 m1 c1 1 (fun i => [.int .i64 (f1q0 i)])) (b1 : (m1 : Int) < 9223372036854775808) (r1q0 : ∀ i, R64 (f1q0 i)) : NdGood Tryz.prog Tryz.f6 8 Tryz.H0 W Zw.p0 Zw.d69 [(.slice a1 m1 c1)] := by
  have ⟨rl0, rh0⟩ := r0
  exact Zw.fx Zw.t261 [] [] (Zw.k0 _) trivial Zw.i261 rfl rfl rowsHold_nil Zw.r261
theorem Zw.n70 {W : World} {n0 : Int} {a1 : Option Addr} {m1 c1 : Nat} {f1q0 : Nat → Int} (r0 : R64 n0) (h1 : SlcOk W a1 m1 c1 1 (fun i => [.int .i64 (f1q0 i)])) (b1 : (m1 : Int) < 9223372036854775808) (r1q0 : ∀ i, R64 (f1q0 i)) : NdGood Tryz.prog Tryz.f6 8 Tryz.H0 W Zw.p0 Zw.d70 [(.slice a1 m1 c1)] := by
  have ⟨rl0, rh0⟩ := r0
  exact Zw.fx Zw.t262 [] [] (Zw.k0 _) trivial Zw.i262 rfl rfl rowsHold_nil Zw.r262
theorem Zw.n71 {W : World} {n0 : Int} {a1 : Option Addr} {m1 c1 : Nat} {f1q0 : Nat → Int} (r0 : R64 n0) (h1 : SlcOk W a1 m1 c1 1 (fun i => [.int .i64 (f1q0 i)])) (b1 : (m1 : Int) < 9223372036854775808) (r1q0 : ∀ i, R64 (f1q0 i)) : NdGood Tryz.prog Tryz.f6 8 Tryz.H0 W Zw.p0 Zw.d71 [(.slice a1 m1 c1)] := by
  have ⟨rl0, rh0⟩ := r0
  exact Zw.fx Zw.t263 [] [] (Zw.k0 _) trivial Zw.i263 rfl rfl rowsHold_nil Zw.r263
theorem Zw.n72 {W : World} {n0 : Int} {a1 : Option Addr} {m1 c1 : Nat} {f1q0 : Nat → Int} (r0 : R64 n0) (h1 : SlcOk W a1 m1 c1 1 (fun i => [.int .i64 (f1q0 i)])) (b1 : (m1 : Int) < 9223372036854775808) (r1q0 : ∀ i, R64 (f1q0 i)) : NdGood Tryz.prog Tryz.f6 8 Tryz.H0 W Zw.p0 Zw.d72 [(.slice a1 m1 c1)] := by
  have ⟨rl0, rh0⟩ := r0
  exact Zw.fx Zw.t264 [] [] (Zw.k0 _) trivial Zw.i264 rfl rfl rowsHold_nil Zw.r264
theorem Zw.n73 {W : World} {n0 : Int} {a1 : Option Addr} {m1 c1 : Nat} {f1q0 : Nat → Int} (r0 : R64 n0) (h1 : SlcOk W a1 m1 c1 1 (fun i => [.int .i64 (f1q0 i)])) (b1 : (m1 : Int) < 9223372036854775808) (r1q0 : ∀ i, R64 (f1q0 i)) : NdGood Tryz.prog Tryz.f6 8 Tryz.H0 W Zw.p0 Zw.d73 [(.slice a1 m1 c1)] := by
  have ⟨rl0, rh0⟩ := r0
  exact Zw.fx Zw.t265 [] [] (Zw.k0 _) trivial Zw.i265 rfl rfl rowsHold_nil Zw.r265
theorem Zw.n44 {W : World} {n0 : Int} {a1 : Option Addr} {m1 c1 : Nat} {f1q0 : Nat → Int} (r0 : R64 n0) (h1 : SlcOk W a1 m1 c1 1 (fun i => [.int .i64 (f1q0 i)])) (b1 : (m1 : Int) < 9223372036854775808) (r1q0 : ∀ i, R64 (f1q0 i)) : NdGood Tryz.prog Tryz.f6 8 Tryz.H0 W Zw.p0 Zw.d44 [(.slice a1 m1 c1)] := by
  have ⟨rl0, rh0⟩ := r0
  by_cases q1 : (2 : Int) < (m1 : Int)
  ·
    have l2 : 2 < m1 := by omega
    obtain ⟨p2, v2⟩ := h1.elem l2
    have w2q0 := r1q0 2
    obtain ⟨d3, ⟨y3, e3, z3, u3, w3⟩, g3, o3⟩ := ex_rem (f1q0 2) (5 : Int) (by omega) (by omega)
    obtain ⟨d4, e4, g4, o4⟩ := ex_add d3 (5 : Int)
    obtain ⟨d5, ⟨y5, e5, z5, u5, w5⟩, g5, o5⟩ := ex_rem d4 (5 : Int) (by omega) (by omega)
    rcases (show d5 = 0 ∨ d5 = 1 ∨ d5 = 2 ∨ d5 = 3 ∨ d5 = 4 by omega) with k5 | k5 | k5 | k5 | k5
    ·
      exact Zw.nx Zw.t111 [(.int .i64 (f1q0 2)), (.int .i64 (m1 : Int)), (.int .i64 d3), (.int .i64 d4)] [p2] [(.slice a1 m1 c1)] (Zw.k0 _) ⟨hold_len (.atom _ _ rfl) (.atom _ _ rfl), hold_bool (.int _ _) (.atom _ _ rfl) (op_lss_t q1), hold_idx v2 l2 (.atom _ _ rfl) (.int _ _) (by omega) rfl, hold_op (.atom _ _ rfl) (.int _ _) (o3 .i64) (.atom _ _ rfl), hold_op (.atom _ _ rfl) (.int _ _) o4 (.atom _ _ rfl), hold_op (.atom _ _ rfl) (.int _ _) (by have := (o5 .i64); rw [k5] at this; exact this) (.int _ _), trivial⟩ Zw.i111 rfl rfl (rowsHold_cons (Elem.row v2 (VL.cons (.atom _ _ rfl) VL.nil)) rowsHold_nil) Zw.r111 rfl rfl (Zw.n69 r0 h1 b1 r1q0 )
    ·
      exact Zw.nx Zw.t112 [(.int .i64 (f1q0 2)), (.int .i64 (m1 : Int)), (.int .i64 d3), (.int .i64 d4)] [p2] [(.slice a1 m1 c1)] (Zw.k0 _) ⟨hold_len (.atom _ _ rfl) (.atom _ _ rfl), hold_bool (.int _ _) (.atom _ _ rfl) (op_lss_t q1), hold_idx v2 l2 (.atom _ _ rfl) (.int _ _) (by omega) rfl, hold_op (.atom _ _ rfl) (.int _ _) (o3 .i64) (.atom _ _ rfl), hold_op (.atom _ _ rfl) (.int _ _) o4 (.atom _ _ rfl), hold_op (.atom _ _ rfl) (.int _ _) (by have := (o5 .i64); rw [k5] at this; exact this) (.int _ _), trivial⟩ Zw.i112 rfl rfl (rowsHold_cons (Elem.row v2 (VL.cons (.atom _ _ rfl) VL.nil)) rowsHold_nil) Zw.r112 rfl rfl (Zw.n70 r0 h1 b1 r1q0 )
    ·
      exact Zw.nx Zw.t113 [(.int .i64 (f1q0 2)), (.int .i64 (m1 : Int)), (.int .i64 d3), (.int .i64 d4)] [p2] [(.slice a1 m1 c1)] (Zw.k0 _) ⟨hold_len (.atom _ _ rfl) (.atom _ _ rfl), hold_bool (.int _ _) (.atom _ _ rfl) (op_lss_t q1), hold_idx v2 l2 (.atom _ _ rfl) (.int _ _) (by omega) rfl, hold_op (.atom _ _ rfl) (.int _ _) (o3 .i64) (.atom _ _ rfl), hold_op (.atom _ _ rfl) (.int _ _) o4 (.atom _ _ rfl), hold_op (.atom _ _ rfl) (.int _ _) (by have := (o5 .i64); rw [k5] at this; exact this) (.int _ _), trivial⟩ Zw.i113 rfl rfl (rowsHold_cons (Elem.row v2 (VL.cons (.atom _ _ rfl) VL.nil)) rowsHold_nil) Zw.r113 rfl rfl (Zw.n71 r0 h1 b1 r1q0 )
    ·
      exact Zw.nx Zw.t114 [(.int .i64 (f1q0 2)), (.int .i64 (m1 : Int)), (.int .i64 d3), (.int .i64 d4)] [p2] [(.slice a1 m1 c1)] (Zw.k0 _) ⟨hold_len (.atom _ _ rfl) (.atom _ _ rfl), hold_bool (.int _ _) (.atom _ _ rfl) (op_lss_t q1), hold_idx v2 l2 (.atom _ _ rfl) (.int _ _) (by omega) rfl, hold_op (.atom _ _ rfl) (.int _ _) (o3 .i64) (.atom _ _ rfl), hold_op (.atom _ _ rfl) (.int _ _) o4 (.atom _ _ rfl), hold_op (.atom _ _ rfl) (.int _ _) (by have := (o5 .i64); rw [k5] at this; exact this) (.int _ _), trivial⟩ Zw.i114 rfl rfl (rowsHold_cons (Elem.row v2 (VL.cons (.atom _ _ rfl) VL.nil)) rowsHold_nil) Zw.r114 rfl rfl (Zw.n72 r0 h1 b1 r1q0 )
    ·
      exact Zw.nx Zw.t115 [(.int .i64 (f1q0 2)), (.int .i64 (m1 : Int)), (.int .i64 d3), (.int .i64 d4)] [p2] [(.slice a1 m1 c1)] (Zw.k0 _) ⟨hold_len (.atom _ _ rfl) (.atom _ _ rfl), hold_bool (.int _ _) (.atom _ _ rfl) (op_lss_t q1), hold_idx v2 l2 (.atom _ _ rfl) (.int _ _) (by omega) rfl, hold_op (.atom _ _ rfl) (.int _ _) (o3 .i64) (.atom _ _ rfl), hold_op (.atom _ _ rfl) (.int _ _) o4 (.atom _ _ rfl), hold_op (.atom _ _ rfl) (.int _ _) (by have := (o5 .i64); rw [k5] at this; exact this) (.int _ _), trivial⟩ Zw.i115 rfl rfl (rowsHold_cons (Elem.row v2 (VL.cons (.atom _ _ rfl) VL.nil)) rowsHold_nil) Zw.r115 rfl rfl (Zw.n73 r0 h1 b1 r1q0 )
  ·
    exact Zw.nx Zw.t116 [(.int .i64 (m1 : Int))] [] [(.slice a1 m1 c1)] (Zw.k0 _) ⟨hold_len (.atom _ _ rfl) (.atom _ _ rfl), hold_bool (.int _ _) (.atom _ _ rfl) (op_lss_f (Int.not_lt.1 q1)), trivial⟩ Zw.i116 rfl rfl rowsHold_nil Zw.r116 rfl rfl (Zw.n69 r0 h1 b1 r1q0 )
theorem Zw.n74 {W : World} {n0 : Int} {a1 : Option Addr} {m1 c1 : Nat} {f1q0 : Nat → Int} (r0 : R64 n0) (h1 : SlcOk W a1 m1 c1 1 (fun i => [.int .i64 (f1q0 i)])) (b1 : (m1 : Int) < 9223372036854775808) (r1q0 : ∀ i, R64 (f1q0 i)) : NdGood Tryz.prog Tryz.f6 8 Tryz.H0 W Zw.p0 Zw.d74 [(.slice a1 m1 c1)] := by
  have ⟨rl0, rh0⟩ := r0
  exact Zw.fx Zw.t266 [] [] (Zw.k0 _) trivial Zw.i266 rfl rfl rowsHold_nil Zw.r266
theorem Zw.n75 {W : World} {n0 : Int} {a1 : Option Addr} {m1 c1 : Nat} {f1q0 : Nat → Int} (r0 : R64 n0) (h1 : SlcOk W a1 m1 c1 1 (fun i => [.int .i64 (f1q0 i)])) (b1 : (m1 : Int) < 9223372036854775808) (r1q0 : ∀ i, R64 (f1q0 i)) : NdGood Tryz.prog Tryz.f6 8 Tryz.H0 W Zw.p0 Zw.d75 [(.slice a1 m1 c1)] := by
  have ⟨rl0, rh0⟩ := r0
  exact Zw.fx Zw.t267 [] [] (Zw.k0 _) trivial Zw.i267 rfl rfl rowsHold_nil Zw.r267
theorem Zw.n76 {W : World} {n0 : Int} {a1 : Option Addr} {m1 c1 : Nat} {f1q0 : Nat → Int} (r0 : R64 n0) (h1 : SlcOk W a1 m1 c1 1 (fun i => [.int .i64 (f1q0 i)])) (b1 : (m1 : Int) < 9223372036854775808) (r1q0 : ∀ i, R64 (f1q0 i)) : NdGood Tryz.prog Tryz.f6 8 Tryz.H0 W Zw.p0 Zw.d76 [(.slice a1 m1 c1)] := by
  have ⟨rl0, rh0⟩ := r0
  exact Zw.fx Zw.t268 [] [] (Zw.k0 _) trivial Zw.i268 rfl rfl rowsHold_nil Zw.r268
theorem Zw.n77 {W : World} {n0 : Int} {a1 : Option Addr} {m1 c1 : Nat} {f1q0 : Nat → Int} (r0 : R64 n0) (h1 : SlcOk W a1 m1 c1 1 (fun i => [.int .i64 (f1q0 i)])) (b1 : (m1 : Int) < 9223372036854775808) (r1q0 : ∀ i, R64 (f1q0 i)) : NdGood Tryz.prog Tryz.f6 8 Tryz.H0 W Zw.p0 Zw.d77 [(.slice a1 m1 c1)] := by
  have ⟨rl0, rh0⟩ := r0
  exact Zw.fx Zw.t269 [] [] (Zw.k0 _) trivial Zw.i269 rfl rfl rowsHold_nil Zw.r269
theorem Zw.n78 {W : World} {n0 : Int} {a1 : Option Addr} {m1 c1 : Nat} {f1q0 : Nat → Int} (r0 : R64 n0) (h1 : SlcOk W a1 m1 c1 1 (fun i => [.int .i64 (f1q0 i)])) (b1 : (m1 : Int) < 9223372036854775808) (r1q0 : ∀ i, R64 (f1q0 i)) : NdGood Tryz.prog Tryz.f6 8 Tryz.H0 W Zw.p0 Zw.d78 [(.slice a1 m1 c1)] := by
  have ⟨rl0, rh0⟩ := r0
  exact Zw.fx Zw.t270 [] [] (Zw.k0 _) trivial Zw.i270 rfl rfl rowsHold_nil Zw.r270
theorem Zw.n45 {W : World} {n0 : Int} {a1 : Option Addr} {m1 c1 : Nat} {f1q0 : Nat → Int} (r0 : R64 n0) (h1 : SlcOk W a1 m1 c1 1 (fun i => [.int .i64 (f1q0 i)])) (b1 : (m1 : Int) < 9223372036854775808) (r1q0 : ∀ i, R64 (f1q0 i)) : NdGood Tryz.prog Tryz.f6 8 Tryz.H0 W Zw.p0 Zw.d45 [(.slice a1 m1 c1)] := by
  have ⟨rl0, rh0⟩ := r0
  by_cases q1 : (2 : Int) < (m1 : Int)
  ·
    have l2 : 2 < m1 := by omega
    obtain ⟨p2, v2⟩ := h1.elem l2
    have w2q0 := r1q0 2
    obtain ⟨d3, ⟨y3, e3, z3, u3, w3⟩, g3, o3⟩ := ex_rem (f1q0 2) (5 : Int) (by omega) (by omega)
    obtain ⟨d4, e4, g4, o4⟩ := ex_add d3 (5 : Int)
    obtain ⟨d5, ⟨y5, e5, z5, u5, w5⟩, g5, o5⟩ := ex_rem d4 (5 : Int) (by omega) (by omega)
    rcases (show d5 = 0 ∨ d5 = 1 ∨ d5 = 2 ∨ d5 = 3 ∨ d5 = 4 by omega) with k5 | k5 | k5 | k5 | k5
    ·
      exact Zw.nx Zw.t117 [(.int .i64 (f1q0 2)), (.int .i64 (m1 : Int)), (.int .i64 d3), (.int .i64 d4)] [p2] [(.slice a1 m1 c1)] (Zw.k0 _) ⟨hold_len (.atom _ _ rfl) (.atom _ _ rfl), hold_bool (.int _ _) (.atom _ _ rfl) (op_lss_t q1), hold_idx v2 l2 (.atom _ _ rfl) (.int _ _) (by omega) rfl, hold_op (.atom _ _ rfl) (.int _ _) (o3 .i64) (.atom _ _ rfl), hold_op (.atom _ _ rfl) (.int _ _) o4 (.atom _ _ rfl), hold_op (.atom _ _ rfl) (.int _ _) (by have := (o5 .i64); rw [k5] at this; exact this) (.int _ _), trivial⟩ Zw.i117 rfl rfl (rowsHold_cons (Elem.row v2 (VL.cons (.atom _ _ rfl) VL.nil)) rowsHold_nil) Zw.r117 rfl rfl (Zw.n74 r0 h1 b1 r1q0 )
    ·
      exact Zw.nx Zw.t118 [(.int .i64 (f1q0 2)), (.int .i64 (m1 : Int)), (.int .i64 d3), (.int .i64 d4)] [p2] [(.slice a1 m1 c1)] (Zw.k0 _) ⟨hold_len (.atom _ _ rfl) (.atom _ _ rfl), hold_bool (.int _ _) (.atom _ _ rfl) (op_lss_t q1), hold_idx v2 l2 (.atom _ _ rfl) (.int _ _) (by omega) rfl, hold_op (.atom _ _ rfl) (.int _ _) (o3 .i64) (.atom _ _ rfl), hold_op (.atom _ _ rfl) (.int _ _) o4 (.atom _ _ rfl), hold_op (.atom _ _ rfl) (.int _ _) (by have := (o5 .i64); rw [k5] at this; exact this) (.int _ _), trivial⟩ Zw.i118 rfl rfl (rowsHold_cons (Elem.row v2 (VL.cons (.atom _ _ rfl) VL.nil)) rowsHold_nil) Zw.r118 rfl rfl (Zw.n75 r0 h1 b1 r1q0 )
    ·
      exact Zw.nx Zw.t119 [(.int .i64 (f1q0 2)), (.int .i64 (m1 : Int)), (.int .i64 d3), (.int .i64 d4)] [p2] [(.slice a1 m1 c1)] (Zw.k0 _) ⟨hold_len (.atom _ _ rfl) (.atom _ _ rfl), hold_bool (.int _ _) (.atom _ _ rfl) (op_lss_t q1), hold_idx v2 l2 (.atom _ _ rfl) (.int _ _) (by omega) rfl, hold_op (.atom _ _ rfl) (.int _ _) (o3 .i64) (.atom _ _ rfl), hold_op (.atom _ _ rfl) (.int _ _) o4 (.atom _ _ rfl), hold_op (.atom _ _ rfl) (.int _ _) (by have := (o5 .i64); rw [k5] at this; exact this) (.int _ _), trivial⟩ Zw.i119 rfl rfl (rowsHold_cons (Elem.row v2 (VL.cons (.atom _ _ rfl) VL.nil)) rowsHold_nil) Zw.r119 rfl rfl (Zw.n76 r0 h1 b1 r1q0 )
    ·
      exact Zw.nx Zw.t120 [(.int .i64 (f1q0 2)), (.int .i64 (m1 : Int)), (.int .i64 d3), (.int .i64 d4)] [p2] [(.slice a1 m1 c1)] (Zw.k0 _) ⟨hold_len (.atom _ _ rfl) (.atom _ _ rfl), hold_bool (.int _ _) (.atom _ _ rfl) (op_lss_t q1), hold_idx v2 l2 (.atom _ _ rfl) (.int _ _) (by omega) rfl, hold_op (.atom _ _ rfl) (.int _ _) (o3 .i64) (.atom _ _ rfl), hold_op (.atom _ _ rfl) (.int _ _) o4 (.atom _ _ rfl), hold_op (.atom _ _ rfl) (.int _ _) (by have := (o5 .i64); rw [k5] at this; exact this) (.int _ _), trivial⟩ Zw.i120 rfl rfl (rowsHold_cons (Elem.row v2 (VL.cons (.atom _ _ rfl) VL.nil)) rowsHold_nil) Zw.r120 rfl rfl (Zw.n77 r0 h1 b1 r1q0 )
    ·
      exact Zw.nx Zw.t121 [(.int .i64 (f1q0 2)), (.int .i64 (m1 : Int)), (.int .i64 d3), (.int .i64 d4)] [p2] [(.slice a1 m1 c1)] (Zw.k0 _) ⟨hold_len (.atom _ _ rfl) (.atom _ _ rfl), hold_bool (.int _ _) (.atom _ _ rfl) (op_lss_t q1), hold_idx v2 l2 (.atom _ _ rfl) (.int _ _) (by omega) rfl, hold_op (.atom _ _ rfl) (.int _ _) (o3 .i64) (.atom _ _ rfl), hold_op (.atom _ _ rfl) (.int _ _) o4 (.atom _ _ rfl), hold_op (.atom _ _ rfl) (.int _ _) (by have := (o5 .i64); rw [k5] at this; exact this) (.int _ _), trivial⟩ Zw.i121 rfl rfl (rowsHold_cons (Elem.row v2 (VL.cons (.atom _ _ rfl) VL.nil)) rowsHold_nil) Zw.r121 rfl rfl (Zw.n78 r0 h1 b1 r1q0 )
  ·
    exact Zw.nx Zw.t122 [(.int .i64 (m1 : Int))] [] [(.slice a1 m1 c1)] (Zw.k0 _) ⟨hold_len (.atom _ _ rfl) (.atom _ _ rfl), hold_bool (.int _ _) (.atom _ _ rfl) (op_lss_f (Int.not_lt.1 q1)), trivial⟩ Zw.i122 rfl rfl rowsHold_nil Zw.r122 rfl rfl (Zw.n74 r0 h1 b1 r1q0 )
theorem Zw.n79 {W : World} {n0 : Int} {a1 : Option Addr} {m1 c1 : Nat} {f1q0 : Nat → Int} (r0 : R64 n0) (h1 : SlcOk W a1 m1 c1 1 (fun i => [.int .i64 (f1q0 i)])) (b1 : (m1 : Int) < 9223372036854775808) (r1q0 : ∀ i, R64 (f1q0 i)) : NdGood Tryz.prog Tryz.f6 8 Tryz.H0 W Zw.p0 Zw.d79 [(.slice a1 m1 c1)] := by
  have ⟨rl0, rh0⟩ := r0
  exact Zw.fx Zw.t271 [] [] (Zw.k0 _) trivial Zw.i271 rfl rfl rowsHold_nil Zw.r271
theorem Zw.n80 {W : World} {n0 : Int} {a1 : Option Addr} {m1 c1 : Nat} {f1q0 : Nat → Int} (r0 : R64 n0) (h1 : SlcOk W a1 m1 c1 1 (fun i => [.int .i64 (f1q0 i)])) (b1 : (m1 : Int) < 9223372036854775808) (r1q0 : ∀ i, R64 (f1q0 i)) : NdGood Tryz.prog Tryz.f6 8 Tryz.H0 W Zw.p0 Zw.d80 [(.slice a1 m1 c1)] := by
  have ⟨rl0, rh0⟩ := r0
  exact Zw.fx Zw.t272 [] [] (Zw.k0 _) trivial Zw.i272 rfl rfl rowsHold_nil Zw.r272
theorem Zw.n81 {W : World} {n0 : Int} {a1 : Option Addr} {m1 c1 : Nat} {f1q0 : Nat → Int} (r0 : R64 n0) (h1 : SlcOk W a1 m1 c1 1 (fun i => [.int .i64 (f1q0 i)])) (b1 : (m1 : Int) < 9223372036854775808) (r1q0 : ∀ i, R64 (f1q0 i)) : NdGood Tryz.prog Tryz.f6 8 Tryz.H0 W Zw.p0 Zw.d81 [(.slice a1 m1 c1)] := by
  have ⟨rl0, rh0⟩ := r0
  exact Zw.fx Zw.t273 [] [] (Zw.k0 _) trivial Zw.i273 rfl rfl rowsHold_nil Zw.r273
theorem Zw.n82 {W : World} {n0 : Int} {a1 : Option Addr} {m1 c1 : Nat} {f1q0 : Nat → Int} (r0 : R64 n0) (h1 : SlcOk W a1 m1 c1 1 (fun i => [.int .i64 (f1q0 i)])) (b1 : (m1 : Int) < 9223372036854775808) (r1q0 : ∀ i, R64 (f1q0 i)) : NdGood Tryz.prog Tryz.f6 8 Tryz.H0 W Zw.p0 Zw.d82 [(.slice a1 m1 c1)] := by
  have ⟨rl0, rh0⟩ := r0
  exact Zw.fx Zw.t274 [] [] (Zw.k0 _) trivial Zw.i274 rfl rfl rowsHold_nil Zw.r274
theorem Zw.n83 {W : World} {n0 : Int} {a1 : Option Addr} {m1 c1 : Nat} {f1q0 : Nat → Int} (r0 : R64 n0) (h1 : SlcOk W a1 m1 c1 1 (fun i => [.int .i64 (f1q0 i)])) (b1 : (m1 : Int) < 9223372036854775808) (r1q0 : ∀ i, R64 (f1q0 i)) : NdGood Tryz.prog Tryz.f6 8 Tryz.H0 W Zw.p0 Zw.d83 [(.slice a1 m1 c1)] := by
  have ⟨rl0, rh0⟩ := r0
  exact Zw.fx Zw.t275 [] [] (Zw.k0 _) trivial Zw.i275 rfl rfl rowsHold_nil Zw.r275
theorem Zw.n46 {W : World} {n0 : Int} {a1 : Option Addr} {m1 c1 : Nat} {f1q0 : Nat → Int} (r0 : R64 n0) (h1 : SlcOk W a1 m1 c1 1 (fun i => [.int .i64 (f1q0 i)])) (b1 : (m1 : Int) < 9223372036854775808) (r1q0 : ∀ i, R64 (f1q0 i)) : NdGood Tryz.prog Tryz.f6 8 Tryz.H0 W Zw.p0 Zw.d46 [(.slice a1 m1 c1)] := by
  have ⟨rl0, rh0⟩ := r0
  by_cases q1 : (2 : Int) < (m1 : Int)
  ·
    have l2 : 2 < m1 := by omega
    obtain ⟨p2, v2⟩ := h1.elem l2
    have w2q0 := r1q0 2
    obtain ⟨d3, ⟨y3, e3, z3, u3, w3⟩, g3, o3⟩ := ex_rem (f1q0 2) (5 : Int) (by omega) (by omega)
    obtain ⟨d4, e4, g4, o4⟩ := ex_add d3 (5 : Int)
    obtain ⟨d5, ⟨y5, e5, z5, u5, w5⟩, g5, o5⟩ := ex_rem d4 (5 : Int) (by omega) (by omega)
    rcases (show d5 = 0 ∨ d5 = 1 ∨ d5 = 2 ∨ d5 = 3 ∨ d5 = 4 by omega) with k5 | k5 | k5 | k5 | k5
    ·
      exact Zw.nx Zw.t123 [(.int .i64 (f1q0 2)), (.int .i64 (m1 : Int)), (.int .i64 d3), (.int .i64 d4)] [p2] [(.slice a1 m1 c1)] (Zw.k0 _) ⟨hold_len (.atom _ _ rfl) (.atom _ _ rfl), hold_bool (.int _ _) (.atom _ _ rfl) (op_lss_t q1), hold_idx v2 l2 (.atom _ _ rfl) (.int _ _) (by omega) rfl, hold_op (.atom _ _ rfl) (.int _ _) (o3 .i64) (.atom _ _ rfl), hold_op (.atom _ _ rfl) (.int _ _) o4 (.atom _ _ rfl), hold_op (.atom _ _ rfl) (.int _ _) (by have := (o5 .i64); rw [k5] at this; exact this) (.int _ _), trivial⟩ Zw.i123 rfl rfl (rowsHold_cons (Elem.row v2 (VL.cons (.atom _ _ rfl) VL.nil)) rowsHold_nil) Zw.r123 rfl rfl (Zw.n79 r0 h1 b1 r1q0 )
    ·
      exact Zw.nx Zw.t124 [(.int .i64 (f1q0 2)), (.int .i64 (m1 : Int)), (.int .i64 d3), (.int .i64 d4)] [p2] [(.slice a1 m1 c1)] (Zw.k0 _) ⟨hold_len (.atom _ _ rfl) (.atom _ _ rfl), hold_bool (.int _ _) (.atom _ _ rfl) (op_lss_t q1), hold_idx v2 l2 (.atom _ _ rfl) (.int _ _) (by omega) rfl, hold_op (.atom _ _ rfl) (.int _ _) (o3 .i64) (.atom _ _ rfl), hold_op (.atom _ _ rfl) (.int _ _) o4 (.atom _ _ rfl), hold_op (.atom _ _ rfl) (.int _ _) (by have := (o5 .i64); rw [k5] at this; exact this) (.int _ _), trivial⟩ Zw.i124 rfl rfl (rowsHold_cons (Elem.row v2 (VL.cons (.atom _ _ rfl) VL.nil)) rowsHold_nil) Zw.r124 rfl rfl (Zw.n80 r0 h1 b1 r1q0 )
    ·
      exact Zw.nx Zw.t125 [(.int .i64 (f1q0 2)), (.int .i64 (m1 : Int)), (.int .i64 d3), (.int .i64 d4)] [p2] [(.slice a1 m1 c1)] (Zw.k0 _) ⟨hold_len (.atom _ _ rfl) (.atom _ _ rfl), hold_bool (.int _ _) (.atom _ _ rfl) (op_lss_t q1), hold_idx v2 l2 (.atom _ _ rfl) (.int _ _) (by omega) rfl, hold_op (.atom _ _ rfl) (.int _ _) (o3 .i64) (.atom _ _ rfl), hold_op (.atom _ _ rfl) (.int _ _) o4 (.atom _ _ rfl), hold_op (.atom _ _ rfl) (.int _ _) (by have := (o5 .i64); rw [k5] at this; exact this) (.int _ _), trivial⟩ Zw.i125 rfl rfl (rowsHold_cons (Elem.row v2 (VL.cons (.atom _ _ rfl) VL.nil)) rowsHold_nil) Zw.r125 rfl rfl (Zw.n81 r0 h1 b1 r1q0 )
    ·
      exact Zw.nx Zw.t126 [(.int .i64 (f1q0 2)), (.int .i64 (m1 : Int)), (.int .i64 d3), (.int .i64 d4)] [p2] [(.slice a1 m1 c1)] (Zw.k0 _) ⟨hold_len (.atom _ _ rfl) (.atom _ _ rfl), hold_bool (.int _ _) (.atom _ _ rfl) (op_lss_t q1), hold_idx v2 l2 (.atom _ _ rfl) (.int _ _) (by omega) rfl, hold_op (.atom _ _ rfl) (.int _ _) (o3 .i64) (.atom _ _ rfl), hold_op (.atom _ _ rfl) (.int _ _) o4 (.atom _ _ rfl), hold_op (.atom _ _ rfl) (.int _ _) (by have := (o5 .i64); rw [k5] at this; exact this) (.int _ _), trivial⟩ Zw.i126 rfl rfl (rowsHold_cons (Elem.row v2 (VL.cons (.atom _ _ rfl) VL.nil)) rowsHold_nil) Zw.r126 rfl rfl (Zw.n82 r0 h1 b1 r1q0 )
    ·
      exact Zw.nx Zw.t127 [(.int .i64 (f1q0 2)), (.int .i64 (m1 : Int)), (.int .i64 d3), (.int .i64 d4)] [p2] [(.slice a1 m1 c1)] (Zw.k0 _) ⟨hold_len (.atom _ _ rfl) (.atom _ _ rfl), hold_bool (.int _ _) (.atom _ _ rfl) (op_lss_t q1), hold_idx v2 l2 (.atom _ _ rfl) (.int _ _) (by omega) rfl, hold_op (.atom _ _ rfl) (.int _ _) (o3 .i64) (.atom _ _ rfl), hold_op (.atom _ _ rfl) (.int _ _) o4 (.atom _ _ rfl), hold_op (.atom _ _ rfl) (.int _ _) (by have := (o5 .i64); rw [k5] at this; exact this) (.int _ _), trivial⟩ Zw.i127 rfl rfl (rowsHold_cons (Elem.row v2 (VL.cons (.atom _ _ rfl) VL.nil)) rowsHold_nil) Zw.r127 rfl rfl (Zw.n83 r0 h1 b1 r1q0 )
  ·
    exact Zw.nx Zw.t128 [(.int .i64 (m1 : Int))] [] [(.slice a1 m1 c1)] (Zw.k0 _) ⟨hold_len (.atom _ _ rfl) (.atom _ _ rfl), hold_bool (.int _ _) (.atom _ _ rfl) (op_lss_f (Int.not_lt.1 q1)), trivial⟩ Zw.i128 rfl rfl rowsHold_nil Zw.r128 rfl rfl (Zw.n79 r0 h1 b1 r1q0 )
theorem Zw.n84 {W : World} {n0 : Int} {a1 : Option Addr} {m1 c1 : Nat} {f1q0 : Nat → Int} (r0 : R64 n0) (h1 : SlcOk W a1 m1 c1 1 (fun i => [.int .i64 (f1q0 i)])) (b1 : (m1 : Int) < 9223372036854775808) (r1q0 : ∀ i, R64 (f1q0 i)) : NdGood Tryz.prog Tryz.f6 8 Tryz.H0 W Zw.p0 Zw.d84 [(.slice a1 m1 c1)] := by
  have ⟨rl0, rh0⟩ := r0
  exact Zw.fx Zw.t276 [] [] (Zw.k0 _) trivial Zw.i276 rfl rfl rowsHold_nil Zw.r276
theorem Zw.n85 {W : World} {n0 : Int} {a1 : Option Addr} {m1 c1 : Nat} {f1q0 : Nat → Int} (r0 : R64 n0) (h1 : SlcOk W a1 m1 c1 1 (fun i => [.int .i64 (f1q0 i)])) (b1 : (m1 : Int) < 9223372036854775808) (r1q0 : ∀ i, R64 (f1q0 i)) : NdGood Tryz.prog Tryz.f6 8 Tryz.H0 W Zw.p0 Zw.d85 [(.slice a1 m1 c1)] := by
  have ⟨rl0, rh0⟩ := r0
  exact Zw.fx Zw.t277 [] [] (Zw.k0 _) trivial Zw.i277 rfl rfl rowsHold_nil Zw.r277
theorem Zw.n86 {W : World} {n0 : Int} {a1 : Option Addr} {m1 c1 : Nat} {f1q0 : Nat → Int} (r0 : R64 n0) (h1 : SlcOk W a1 m1 c1 1 (fun i => [.int .i64 (f1q0 i)])) (b1 : (m1 : Int) < 9223372036854775808) (r1q0 : ∀ i, R64 (f1q0 i)) : NdGood Tryz.prog Tryz.f6 8 Tryz.H0 W Zw.p0 Zw.d86 [(.slice a1 m1 c1)] := by
  have ⟨rl0, rh0⟩ := r0
  exact Zw.fx Zw.t278 [] [] (Zw.k0 _) trivial Zw.i278 rfl rfl rowsHold_nil Zw.r278
theorem Zw.n87 {W : World} {n0 : Int} {a1 : Option Addr} {m1 c1 : Nat} {f1q0 : Nat → Int} (r0 : R64 n0) (h1 : SlcOk W a1 m1 c1 1 (fun i => [.int .i64 (f1q0 i)])) (b1 : (m1 : Int) < 9223372036854775808) (r1q0 : ∀ i, R64 (f1q0 i)) : NdGood Tryz.prog Tryz.f6 8 Tryz.H0 W Zw.p0 Zw.d87 [(.slice a1 m1 c1)] := by
  have ⟨rl0, rh0⟩ := r0
  exact Zw.fx Zw.t279 [] [] (Zw.k0 _) trivial Zw.i279 rfl rfl rowsHold_nil Zw.r279
theorem Zw.n88 {W : World} {n0 : Int} {a1 : Option Addr} {m1 c1 : Nat} {f1q0 : Nat → Int} (r0 : R64 n0) (h1 : SlcOk W a1 m1 c1 1 (fun i => [.int .i64 (f1q0 i)])) (b1 : (m1 : Int) < 9223372036854775808) (r1q0 : ∀ i, R64 (f1q0 i)) : NdGood Tryz.prog Tryz.f6 8 Tryz.H0 W Zw.p0 Zw.d88 [(.slice a1 m1 c1)] := by
  have ⟨rl0, rh0⟩ := r0
  exact Zw.fx Zw.t280 [] [] (Zw.k0 _) trivial Zw.i280 rfl rfl rowsHold_nil Zw.r280
theorem Zw.n47 {W : World} {n0 : Int} {a1 : Option Addr} {m1 c1 : Nat} {f1q0 : Nat → Int} (r0 : R64 n0) (h1 : SlcOk W a1 m1 c1 1 (fun i => [.int .i64 (f1q0 i)])) (b1 : (m1 : Int) < 9223372036854775808) (r1q0 : ∀ i, R64 (f1q0 i)) : NdGood Tryz.prog Tryz.f6 8 Tryz.H0 W Zw.p0 Zw.d47 [(.slice a1 m1 c1)] := by
  have ⟨rl0, rh0⟩ := r0
  by_cases q1 : (2 : Int) < (m1 : Int)
  ·
    have l2 : 2 < m1 := by omega
    obtain ⟨p2, v2⟩ := h1.elem l2
    have w2q0 := r1q0 2
    obtain ⟨d3, ⟨y3, e3, z3, u3, w3⟩, g3, o3⟩ := ex_rem (f1q0 2) (5 : Int) (by omega) (by omega)
    obtain ⟨d4, e4, g4, o4⟩ := ex_add d3 (5 : Int)
    obtain ⟨d5, ⟨y5, e5, z5, u5, w5⟩, g5, o5⟩ := ex_rem d4 (5 : Int) (by omega) (by omega)
    rcases (show d5 = 0 ∨ d5 = 1 ∨ d5 = 2 ∨ d5 = 3 ∨ d5 = 4 by omega) with k5 | k5 | k5 | k5 | k5
    ·
      exact Zw.nx Zw.t129 [(.int .i64 (f1q0 2)), (.int .i64 (m1 : Int)), (.int .i64 d3), (.int .i64 d4)] [p2] [(.slice a1 m1 c1)] (Zw.k0 _) ⟨hold_len (.atom _ _ rfl) (.atom _ _ rfl), hold_bool (.int _ _) (.atom _ _ rfl) (op_lss_t q1), hold_idx v2 l2 (.atom _ _ rfl) (.int _ _) (by omega) rfl, hold_op (.atom _ _ rfl) (.int _ _) (o3 .i64) (.atom _ _ rfl), hold_op (.atom _ _ rfl) (.int _ _) o4 (.atom _ _ rfl), hold_op (.atom _ _ rfl) (.int _ _) (by have := (o5 .i64); rw [k5] at this; exact this) (.int _ _), trivial⟩ Zw.i129 rfl rfl (rowsHold_cons (Elem.row v2 (VL.cons (.atom _ _ rfl) VL.nil)) rowsHold_nil) Zw.r129 rfl rfl (Zw.n84 r0 h1 b1 r1q0 )
    ·
      exact Zw.nx Zw.t130 [(.int .i64 (f1q0 2)), (.int .i64 (m1 : Int)), (.int .i64 d3), (.int .i64 d4)] [p2] [(.slice a1 m1 c1)] (Zw.k0 _) ⟨hold_len (.atom _ _ rfl) (.atom _ _ rfl), hold_bool (.int _ _) (.atom _ _ rfl) (op_lss_t q1), hold_idx v2 l2 (.atom _ _ rfl) (.int _ _) (by omega) rfl, hold_op (.atom _ _ rfl) (.int _ _) (o3 .i64) (.atom _ _ rfl), hold_op (.atom _ _ rfl) (.int _ _) o4 (.atom _ _ rfl), hold_op (.atom _ _ rfl) (.int _ _) (by have := (o5 .i64); rw [k5] at this; exact this) (.int _ _), trivial⟩ Zw.i130 rfl rfl (rowsHold_cons (Elem.row v2 (VL.cons (.atom _ _ rfl) VL.nil)) rowsHold_nil) Zw.r130 rfl rfl (Zw.n85 r0 h1 b1 r1q0 )
    ·
      exact Zw.nx Zw.t131 [(.int .i64 (f1q0 2)), (.int .i64 (m1 : Int)), (.int .i64 d3), (.int .i64 d4)] [p2] [(.slice a1 m1 c1)] (Zw.k0 _) ⟨hold_len (.atom _ _ rfl) (.atom _ _ rfl), hold_bool (.int _ _) (.atom _ _ rfl) (op_lss_t q1), hold_idx v2 l2 (.atom _ _ rfl) (.int _ _) (by omega) rfl, hold_op (.atom _ _ rfl) (.int _ _) (o3 .i64) (.atom _ _ rfl), hold_op (.atom _ _ rfl) (.int _ _) o4 (.atom _ _ rfl), hold_op (.atom _ _ rfl) (.int _ _) (by have := (o5 .i64); rw [k5] at this; exact this) (.int _ _), trivial⟩ Zw.i131 rfl rfl (rowsHold_cons (Elem.row v2 (VL.cons (.atom _ _ rfl) VL.nil)) rowsHold_nil) Zw.r131 rfl rfl (Zw.n86 r0 h1 b1 r1q0 )
    ·
      exact Zw.nx Zw.t132 [(.int .i64 (f1q0 2)), (.int .i64 (m1 : Int)), (.int .i64 d3), (.int .i64 d4)] [p2] [(.slice a1 m1 c1)] (Zw.k0 _) ⟨hold_len (.atom _ _ rfl) (.atom _ _ rfl), hold_bool (.int _ _) (.atom _ _ rfl) (op_lss_t q1), hold_idx v2 l2 (.atom _ _ rfl) (.int _ _) (by omega) rfl, hold_op (.atom _ _ rfl) (.int _ _) (o3 .i64) (.atom _ _ rfl), hold_op (.atom _ _ rfl) (.int _ _) o4 (.atom _ _ rfl), hold_op (.atom _ _ rfl) (.int _ _) (by have := (o5 .i64); rw [k5] at this; exact this) (.int _ _), trivial⟩ Zw.i132 rfl rfl (rowsHold_cons (Elem.row v2 (VL.cons (.atom _ _ rfl) VL.nil)) rowsHold_nil) Zw.r132 rfl rfl (Zw.n87 r0 h1 b1 r1q0 )
    ·
      exact Zw.nx Zw.t133 [(.int .i64 (f1q0 2)), (.int .i64 (m1 : Int)), (.int .i64 d3), (.int .i64 d4)] [p2] [(.slice a1 m1 c1)] (Zw.k0 _) ⟨hold_len (.atom _ _ rfl) (.atom _ _ rfl), hold_bool (.int _ _) (.atom _ _ rfl) (op_lss_t q1), hold_idx v2 l2 (.atom _ _ rfl) (.int _ _) (by omega) rfl, hold_op (.atom _ _ rfl) (.int _ _) (o3 .i64) (.atom _ _ rfl), hold_op (.atom _ _ rfl) (.int _ _) o4 (.atom _ _ rfl), hold_op (.atom _ _ rfl) (.int _ _) (by have := (o5 .i64); rw [k5] at this; exact this) (.int _ _), trivial⟩ Zw.i133 rfl rfl (rowsHold_cons (Elem.row v2 (VL.cons (.atom _ _ rfl) VL.nil)) rowsHold_nil) Zw.r133 rfl rfl (Zw.n88 r0 h1 b1 r1q0 )
  ·
    exact Zw.nx Zw.t134 [(.int .i64 (m1 : Int))] [] [(.slice a1 m1 c1)] (Zw.k0 _) ⟨hold_len (.atom _ _ rfl) (.atom _ _ rfl), hold_bool (.int _ _) (.atom _ _ rfl) (op_lss_f (Int.not_lt.1 q1)), trivial⟩ Zw.i134 rfl rfl rowsHold_nil Zw.r134 rfl rfl (Zw.n84 r0 h1 b1 r1q0 )
theorem Zw.n89 {W : World} {n0 : Int} {a1 : Option Addr} {m1 c1 : Nat} {f1q0 : Nat → Int} (r0 : R64 n0) (h1 : SlcOk W a1 m1 c1 1 (fun i => [.int .i64 (f1q0 i)])) (b1 : (m1 : Int) < 9223372036854775808) (r1q0 : ∀ i, R64 (f1q0 i)) : NdGood Tryz.prog Tryz.f6 8 Tryz.H0 W Zw.p0 Zw.d89 [(.slice a1 m1 c1)] := by
  have ⟨rl0, rh0⟩ := r0
  exact Zw.fx Zw.t281 [] [] (Zw.k0 _) trivial Zw.i281 rfl rfl rowsHold_nil Zw.r281
theorem Zw.n90 {W : World} {n0 : Int} {a1 : Option Addr} {m1 c1 : Nat} {f1q0 : Nat → Int} (r0 : R64 n0) (h1 : SlcOk W a1 m1 c1 1 (fun i => [.int .i64 (f1q0 i)])) (b1 : (m1 : Int) < 9223372036854775808) (r1q0 : ∀ i, R64 (f1q0 i)) : NdGood Tryz.prog Tryz.f6 8 Tryz.H0 W Zw.p0 Zw.d90 [(.slice a1 m1 c1)] := by
  have ⟨rl0, rh0⟩ := r0
  exact Zw.fx Zw.t282 [] [] (Zw.k0 _) trivial Zw.i282 rfl rfl rowsHold_nil Zw.r282
theorem Zw.n91 {W : World} {n0 : Int} {a1 : Option Addr} {m1 c1 : Nat} {f1q0 : Nat → Int} (r0 : R64 n0) (h1 : SlcOk W a1 m1 c1 1 (fun i => [.int .i64 (f1q0 i)])) (b1 : (m1 : Int) < 9223372036854775808) (r1q0 : ∀ i, R64 (f1q0 i)) : NdGood Tryz.prog Tryz.f6 8 Tryz.H0 W Zw.p0 Zw.d91 [(.slice a1 m1 c1)] := by
  have ⟨rl0, rh0⟩ := r0
  exact Zw.fx Zw.t283 [] [] (Zw.k0 _) trivial Zw.i283 rfl rfl rowsHold_nil Zw.r283
theorem Zw.n92 {W : World} {n0 : Int} {a1 : Option Addr} {m1 c1 : Nat} {f1q0 : Nat → Int} (r0 : R64 n0) (h1 : SlcOk W a1 m1 c1 1 (fun i => [.int .i64 (f1q0 i)])) (b1 : (m1 : Int) < 9223372036854775808) (r1q0 : ∀ i, R64 (f1q0 i)) : NdGood Tryz.prog Tryz.f6 8 Tryz.H0 W Zw.p0 Zw.d92 [(.slice a1 m1 c1)] := by
  have ⟨rl0, rh0⟩ := r0
  exact Zw.fx Zw.t284 [] [] (Zw.k0 _) trivial Zw.i284 rfl rfl rowsHold_nil Zw.r284
theorem Zw.n93 {W : World} {n0 : Int} {a1 : Option Addr} {m1 c1 : Nat} {f1q0 : Nat → Int} (r0 : R64 n0) (h1 : SlcOk W a1 m1 c1 1 (fun i => [.int .i64 (f1q0 i)])) (b1 : (m1 : Int) < 9223372036854775808) (r1q0 : ∀ i, R64 (f1q0 i)) : NdGood Tryz.prog Tryz.f6 8 Tryz.H0 W Zw.p0 Zw.d93 [(.slice a1 m1 c1)] := by
  have ⟨rl0, rh0⟩ := r0
  exact Zw.fx Zw.t285 [] [] (Zw.k0 _) trivial Zw.i285 rfl rfl rowsHold_nil Zw.r285
theorem Zw.n48 {W : World} {n0 : Int} {a1 : Option Addr} {m1 c1 : Nat} {f1q0 : Nat → Int} (r0 : R64 n0) (h1 : SlcOk W a1 m1 c1 1 (fun i => [.int .i64 (f1q0 i)])) (b1 : (m1 : Int) < 9223372036854775808) (r1q0 : ∀ i, R64 (f1q0 i)) : NdGood Tryz.prog Tryz.f6 8 Tryz.H0 W Zw.p0 Zw.d48 [(.slice a1 m1 c1)] := by
  have ⟨rl0, rh0⟩ := r0
  by_cases q1 : (2 : Int) < (m1 : Int)
  ·
    have l2 : 2 < m1 := by omega
    obtain ⟨p2, v2⟩ := h1.elem l2
    have w2q0 := r1q0 2
    obtain ⟨d3, ⟨y3, e3, z3, u3, w3⟩, g3, o3⟩ := ex_rem (f1q0 2) (5 : Int) (by omega) (by omega)
    obtain ⟨d4, e4, g4, o4⟩ := ex_add d3 (5 : Int)
    obtain ⟨d5, ⟨y5, e5, z5, u5, w5⟩, g5, o5⟩ := ex_rem d4 (5 : Int) (by omega) (by omega)
    rcases (show d5 = 0 ∨ d5 = 1 ∨ d5 = 2 ∨ d5 = 3 ∨ d5 = 4 by omega) with k5 | k5 | k5 | k5 | k5
    ·
      exact Zw.nx Zw.t135 [(.int .i64 (f1q0 2)), (.int .i64 (m1 : Int)), (.int .i64 d3), (.int .i64 d4)] [p2] [(.slice a1 m1 c1)] (Zw.k0 _) ⟨hold_len (.atom _ _ rfl) (.atom _ _ rfl), hold_bool (.int _ _) (.atom _ _ rfl) (op_lss_t q1), hold_idx v2 l2 (.atom _ _ rfl) (.int _ _) (by omega) rfl, hold_op (.atom _ _ rfl) (.int _ _) (o3 .i64) (.atom _ _ rfl), hold_op (.atom _ _ rfl) (.int _ _) o4 (.atom _ _ rfl), hold_op (.atom _ _ rfl) (.int _ _) (by have := (o5 .i64); rw [k5] at this; exact this) (.int _ _), trivial⟩ Zw.i135 rfl rfl (rowsHold_cons (Elem.row v2 (VL.cons (.atom _ _ rfl) VL.nil)) rowsHold_nil) Zw.r135 rfl rfl (Zw.n89 r0 h1 b1 r1q0 )
    ·
      exact Zw.nx Zw.t136 [(.int .i64 (f1q0 2)), (.int .i64 (m1 : Int)), (.int .i64 d3), (.int .i64 d4)] [p2] [(.slice a1 m1 c1)] (Zw.k0 _) ⟨hold_len (.atom _ _ rfl) (.atom _ _ rfl), hold_bool (.int _ _) (.atom _ _ rfl) (op_lss_t q1), hold_idx v2 l2 (.atom _ _ rfl) (.int _ _) (by omega) rfl, hold_op (.atom _ _ rfl) (.int _ _) (o3 .i64) (.atom _ _ rfl), hold_op (.atom _ _ rfl) (.int _ _) o4 (.atom _ _ rfl), hold_op (.atom _ _ rfl) (.int _ _) (by have := (o5 .i64); rw [k5] at this; exact this) (.int _ _), trivial⟩ Zw.i136 rfl rfl (rowsHold_cons (Elem.row v2 (VL.cons (.atom _ _ rfl) VL.nil)) rowsHold_nil) Zw.r136 rfl rfl (Zw.n90 r0 h1 b1 r1q0 )
    ·
      exact Zw.nx Zw.t137 [(.int .i64 (f1q0 2)), (.int .i64 (m1 : Int)), (.int .i64 d3), (.int .i64 d4)] [p2] [(.slice a1 m1 c1)] (Zw.k0 _) ⟨hold_len (.atom _ _ rfl) (.atom _ _ rfl), hold_bool (.int _ _) (.atom _ _ rfl) (op_lss_t q1), hold_idx v2 l2 (.atom _ _ rfl) (.int _ _) (by omega) rfl, hold_op (.atom _ _ rfl) (.int _ _) (o3 .i64) (.atom _ _ rfl), hold_op (.atom _ _ rfl) (.int _ _) o4 (.atom _ _ rfl), hold_op (.atom _ _ rfl) (.int _ _) (by have := (o5 .i64); rw [k5] at this; exact this) (.int _ _), trivial⟩ Zw.i137 rfl rfl (rowsHold_cons (Elem.row v2 (VL.cons (.atom _ _ rfl) VL.nil)) rowsHold_nil) Zw.r137 rfl rfl (Zw.n91 r0 h1 b1 r1q0 )
    ·
      exact Zw.nx Zw.t138 [(.int .i64 (f1q0 2)), (.int .i64 (m1 : Int)), (.int .i64 d3), (.int .i64 d4)] [p2] [(.slice a1 m1 c1)] (Zw.k0 _) ⟨hold_len (.atom _ _ rfl) (.atom _ _ rfl), hold_bool (.int _ _) (.atom _ _ rfl) (op_lss_t q1), hold_idx v2 l2 (.atom _ _ rfl) (.int _ _) (by omega) rfl, hold_op (.atom _ _ rfl) (.int _ _) (o3 .i64) (.atom _ _ rfl), hold_op (.atom _ _ rfl) (.int _ _) o4 (.atom _ _ rfl), hold_op (.atom _ _ rfl) (.int _ _) (by have := (o5 .i64); rw [k5] at this; exact this) (.int _ _), trivial⟩ Zw.i138 rfl rfl (rowsHold_cons (Elem.row v2 (VL.cons (.atom _ _ rfl) VL.nil)) rowsHold_nil) Zw.r138 rfl rfl (Zw.n92 r0 h1 b1 r1q0 )
    ·
      exact Zw.nx Zw.t139 [(.int .i64 (f1q0 2)), (.int .i64 (m1 : Int)), (.int .i64 d3), (.int .i64 d4)] [p2] [(.slice a1 m1 c1)] (Zw.k0 _) ⟨hold_len (.atom _ _ rfl) (.atom _ _ rfl), hold_bool (.int _ _) (.atom _ _ rfl) (op_lss_t q1), hold_idx v2 l2 (.atom _ _ rfl) (.int _ _) (by omega) rfl, hold_op (.atom _ _ rfl) (.int _ _) (o3 .i64) (.atom _ _ rfl), hold_op (.atom _ _ rfl) (.int _ _) o4 (.atom _ _ rfl), hold_op (.atom _ _ rfl) (.int _ _) (by have := (o5 .i64); rw [k5] at this; exact this) (.int _ _), trivial⟩ Zw.i139 rfl rfl (rowsHold_cons (Elem.row v2 (VL.cons (.atom _ _ rfl) VL.nil)) rowsHold_nil) Zw.r139 rfl rfl (Zw.n93 r0 h1 b1 r1q0 )
  ·
    exact Zw.nx Zw.t140 [(.int .i64 (m1 : Int))] [] [(.slice a1 m1 c1)] (Zw.k0 _) ⟨hold_len (.atom _ _ rfl) (.atom _ _ rfl), hold_bool (.int _ _) (.atom _ _ rfl) (op_lss_f (Int.not_lt.1 q1)), trivial⟩ Zw.i140 rfl rfl rowsHold_nil Zw.r140 rfl rfl (Zw.n89 r0 h1 b1 r1q0 )
theorem Zw.n14 {W : World} {n0 : Int} {a1 : Option Addr} {m1 c1 : Nat} {f1q0 : Nat → Int} (r0 : R64 n0) (h1 : SlcOk W a1 m1 c1 1 (fun i => [.int .i64 (f1q0 i)])) (b1 : (m1 : Int) < 9223372036854775808) (r1q0 : ∀ i, R64 (f1q0 i)) : NdGood Tryz.prog Tryz.f6 8 Tryz.H0 W Zw.p0 Zw.d14 [(.slice a1 m1 c1)] := by
  have ⟨rl0, rh0⟩ := r0
  by_cases q1 : (1 : Int) < (m1 : Int)
  ·
    have l2 : 1 < m1 := by omega
    obtain ⟨p2, v2⟩ := h1.elem l2
    have w2q0 := r1q0 1
    obtain ⟨d3, ⟨y3, e3, z3, u3, w3⟩, g3, o3⟩ := ex_rem (f1q0 1) (5 : Int) (by omega) (by omega)
    obtain ⟨d4, e4, g4, o4⟩ := ex_add d3 (5 : Int)
    obtain ⟨d5, ⟨y5, e5, z5, u5, w5⟩, g5, o5⟩ := ex_rem d4 (5 : Int) (by omega) (by omega)
    rcases (show d5 = 0 ∨ d5 = 1 ∨ d5 = 2 ∨ d5 = 3 ∨ d5 = 4 by omega) with k5 | k5 | k5 | k5 | k5
    ·
      exact Zw.nx Zw.t56 [(.int .i64 (f1q0 1)), (.int .i64 (m1 : Int)), (.int .i64 d3), (.int .i64 d4)] [p2] [(.slice a1 m1 c1)] (Zw.k0 _) ⟨hold_len (.atom _ _ rfl) (.atom _ _ rfl), hold_bool (.int _ _) (.atom _ _ rfl) (op_lss_t q1), hold_idx v2 l2 (.atom _ _ rfl) (.int _ _) (by omega) rfl, hold_op (.atom _ _ rfl) (.int _ _) (o3 .i64) (.atom _ _ rfl), hold_op (.atom _ _ rfl) (.int _ _) o4 (.atom _ _ rfl), hold_op (.atom _ _ rfl) (.int _ _) (by have := (o5 .i64); rw [k5] at this; exact this) (.int _ _), trivial⟩ Zw.i56 rfl rfl (rowsHold_cons (Elem.row v2 (VL.cons (.atom _ _ rfl) VL.nil)) rowsHold_nil) Zw.r56 rfl rfl (Zw.n44 r0 h1 b1 r1q0 )
    ·
      exact Zw.nx Zw.t57 [(.int .i64 (f1q0 1)), (.int .i64 (m1 : Int)), (.int .i64 d3), (.int .i64 d4)] [p2] [(.slice a1 m1 c1)] (Zw.k0 _) ⟨hold_len (.atom _ _ rfl) (.atom _ _ rfl), hold_bool (.int _ _) (.atom _ _ rfl) (op_lss_t q1), hold_idx v2 l2 (.atom _ _ rfl) (.int _ _) (by omega) rfl, hold_op (.atom _ _ rfl) (.int _ _) (o3 .i64) (.atom _ _ rfl), hold_op (.atom _ _ rfl) (.int _ _) o4 (.atom _ _ rfl), hold_op (.atom _ _ rfl) (.int _ _) (by have := (o5 .i64); rw [k5] at this; exact this) (.int _ _), trivial⟩ Zw.i57 rfl rfl (rowsHold_cons (Elem.row v2 (VL.cons (.atom _ _ rfl) VL.nil)) rowsHold_nil) Zw.r57 rfl rfl (Zw.n45 r0 h1 b1 r1q0 )
    ·
      exact Zw.nx Zw.t58 [(.int .i64 (f1q0 1)), (.int .i64 (m1 : Int)), (.int .i64 d3), (.int .i64 d4)] [p2] [(.slice a1 m1 c1)] (Zw.k0 _) ⟨hold_len (.atom _ _ rfl) (.atom _ _ rfl), hold_bool (.int _ _) (.atom _ _ rfl) (op_lss_t q1), hold_idx v2 l2 (.atom _ _ rfl) (.int _ _) (by omega) rfl, hold_op (.atom _ _ rfl) (.int _ _) (o3 .i64) (.atom _ _ rfl), hold_op (.atom _ _ rfl) (.int _ _) o4 (.atom _ _ rfl), hold_op (.atom _ _ rfl) (.int _ _) (by have := (o5 .i64); rw [k5] at this; exact this) (.int _ _), trivial⟩ Zw.i58 rfl rfl (rowsHold_cons (Elem.row v2 (VL.cons (.atom _ _ rfl) VL.nil)) rowsHold_nil) Zw.r58 rfl rfl (Zw.n46 r0 h1 b1 r1q0 )
    ·
      exact Zw.nx Zw.t59 [(.int .i64 (f1q0 1)), (.int .i64 (m1 : Int)), (.int .i64 d3), (.int .i64 d4)] [p2] [(.slice a1 m1 c1)] (Zw.k0 _) ⟨hold_len (.atom _ _ rfl) (.atom _ _ rfl), hold_bool (.int _ _) (.atom _ _ rfl) (op_lss_t q1), hold_idx v2 l2 (.atom _ _ rfl) (.int _ _) (by omega) rfl, hold_op (.atom _ _ rfl) (.int _ _) (o3 .i64) (.atom _ _ rfl), hold_op (.atom _ _ rfl) (.int _ _) o4 (.atom _ _ rfl), hold_op (.atom _ _ rfl) (.int _ _) (by have := (o5 .i64); rw [k5] at this; exact this) (.int _ _), trivial⟩ Zw.i59 rfl rfl (rowsHold_cons (Elem.row v2 (VL.cons (.atom _ _ rfl) VL.nil)) rowsHold_nil) Zw.r59 rfl rfl (Zw.n47 r0 h1 b1 r1q0 )
    ·
      exact Zw.nx Zw.t60 [(.int .i64 (f1q0 1)), (.int .i64 (m1 : Int)), (.int .i64 d3), (.int .i64 d4)] [p2] [(.slice a1 m1 c1)] (Zw.k0 _) ⟨hold_len (.atom _ _ rfl) (.atom _ _ rfl), hold_bool (.int _ _) (.atom _ _ rfl) (op_lss_t q1), hold_idx v2 l2 (.atom _ _ rfl) (.int _ _) (by omega) rfl, hold_op (.atom _ _ rfl) (.int _ _) (o3 .i64) (.atom _ _ rfl), hold_op (.atom _ _ rfl) (.int _ _) o4 (.atom _ _ rfl), hold_op (.atom _ _ rfl) (.int _ _) (by have := (o5 .i64); rw [k5] at this; exact this) (.int _ _), trivial⟩ Zw.i60 rfl rfl (rowsHold_cons (Elem.row v2 (VL.cons (.atom _ _ rfl) VL.nil)) rowsHold_nil) Zw.r60 rfl rfl (Zw.n48 r0 h1 b1 r1q0 )
  ·
    exact Zw.nx Zw.t61 [(.int .i64 (m1 : Int))] [] [(.slice a1 m1 c1)] (Zw.k0 _) ⟨hold_len (.atom _ _ rfl) (.atom _ _ rfl), hold_bool (.int _ _) (.atom _ _ rfl) (op_lss_f (Int.not_lt.1 q1)), trivial⟩ Zw.i61 rfl rfl rowsHold_nil Zw.r61 rfl rfl (Zw.n44 r0 h1 b1 r1q0 )
theorem Zw.n96 {W : World} {n0 : Int} {a1 : Option Addr} {m1 c1 : Nat} {f1q0 : Nat → Int} (r0 : R64 n0) (h1 : SlcOk W a1 m1 c1 1 (fun i => [.int .i64 (f1q0 i)])) (b1 : (m1 : Int) < 9223372036854775808) (r1q0 : ∀ i, R64 (f1q0 i)) : NdGood Tryz.prog Tryz.f6 8 Tryz.H0 W Zw.p0 Zw.d96 [(.slice a1 m1 c1)] := by
  have ⟨rl0, rh0⟩ := r0
  exact Zw.fx Zw.t288 [] [] (Zw.k0 _) trivial Zw.i288 rfl rfl rowsHold_nil Zw.r288
theorem Zw.n97 {W : World} {n0 : Int} {a1 : Option Addr} {m1 c1 : Nat} {f1q0 : Nat → Int} (r0 : R64 n0) (h1 : SlcOk W a1 m1 c1 1 (fun i => [.int .i64 (f1q0 i)])) (b1 : (m1 : Int) < 9223372036854775808) (r1q0 : ∀ i, R64 (f1q0 i)) : NdGood Tryz.prog Tryz.f6 8 Tryz.H0 W Zw.p0 Zw.d97 [(.slice a1 m1 c1)] := by
  have ⟨rl0, rh0⟩ := r0
  exact Zw.fx Zw.t289 [] [] (Zw.k0 _) trivial Zw.i289 rfl rfl rowsHold_nil Zw.r289
theorem Zw.n98 {W : World} {n0 : Int} {a1 : Option Addr} {m1 c1 : Nat} {f1q0 : Nat → Int} (r0 : R64 n0) (h1 : SlcOk W a1 m1 c1 1 (fun i => [.int .i64 (f1q0 i)])) (b1 : (m1 : Int) < 9223372036854775808) (r1q0 : ∀ i, R64 (f1q0 i)) : NdGood Tryz.prog Tryz.f6 8 Tryz.H0 W Zw.p0 Zw.d98 [(.slice a1 m1 c1)] := by
  have ⟨rl0, rh0⟩ := r0
  exact Zw.fx Zw.t290 [] [] (Zw.k0 _) trivial Zw.i290 rfl rfl rowsHold_nil Zw.r290
theorem Zw.n94 {W : World} {n0 : Int} {a1 : Option Addr} {m1 c1 : Nat} {f1q0 : Nat → Int} (r0 : R64 n0) (h1 : SlcOk W a1 m1 c1 1 (fun i => [.int .i64 (f1q0 i)])) (b1 : (m1 : Int) < 9223372036854775808) (r1q0 : ∀ i, R64 (f1q0 i)) : NdGood Tryz.prog Tryz.f6 8 Tryz.H0 W Zw.p0 Zw.d94 [(.slice a1 m1 c1)] := by
  have ⟨rl0, rh0⟩ := r0
  exact Zw.fx Zw.t286 [] [] (Zw.k0 _) trivial Zw.i286 rfl rfl rowsHold_nil Zw.r286
theorem Zw.n95 {W : World} {n0 : Int} {a1 : Option Addr} {m1 c1 : Nat} {f1q0 : Nat → Int} (r0 : R64 n0) (h1 : SlcOk W a1 m1 c1 1 (fun i => [.int .i64 (f1q0 i)])) (b1 : (m1 : Int) < 9223372036854775808) (r1q0 : ∀ i, R64 (f1q0 i)) : NdGood Tryz.prog Tryz.f6 8 Tryz.H0 W Zw.p0 Zw.d95 [(.slice a1 m1 c1)] := by
  have ⟨rl0, rh0⟩ := r0
  exact Zw.fx Zw.t287 [] [] (Zw.k0 _) trivial Zw.i287 rfl rfl rowsHold_nil Zw.r287
theorem Zw.n49 {W : World} {n0 : Int} {a1 : Option Addr} {m1 c1 : Nat} {f1q0 : Nat → Int} (r0 : R64 n0) (h1 : SlcOk W a1 m1 c1 1 (fun i => [.int .i64 (f1q0 i)])) (b1 : (m1 : Int) < 9223372036854775808) (r1q0 : ∀ i, R64 (f1q0 i)) : NdGood Tryz.prog Tryz.f6 8 Tryz.H0 W Zw.p0 Zw.d49 [(.slice a1 m1 c1)] := by
  have ⟨rl0, rh0⟩ := r0
  by_cases q1 : (2 : Int) < (m1 : Int)
  ·
    have l2 : 2 < m1 := by omega
    obtain ⟨p2, v2⟩ := h1.elem l2
    have w2q0 := r1q0 2
    obtain ⟨d3, ⟨y3, e3, z3, u3, w3⟩, g3, o3⟩ := ex_rem (f1q0 2) (5 : Int) (by omega) (by omega)
    obtain ⟨d4, e4, g4, o4⟩ := ex_add d3 (5 : Int)
    obtain ⟨d5, ⟨y5, e5, z5, u5, w5⟩, g5, o5⟩ := ex_rem d4 (5 : Int) (by omega) (by omega)
    rcases (show d5 = 0 ∨ d5 = 1 ∨ d5 = 2 ∨ d5 = 3 ∨ d5 = 4 by omega) with k5 | k5 | k5 | k5 | k5
    ·
      exact Zw.nx Zw.t141 [(.int .i64 (f1q0 2)), (.int .i64 (m1 : Int)), (.int .i64 d3), (.int .i64 d4)] [p2] [(.slice a1 m1 c1)] (Zw.k0 _) ⟨hold_len (.atom _ _ rfl) (.atom _ _ rfl), hold_bool (.int _ _) (.atom _ _ rfl) (op_lss_t q1), hold_idx v2 l2 (.atom _ _ rfl) (.int _ _) (by omega) rfl, hold_op (.atom _ _ rfl) (.int _ _) (o3 .i64) (.atom _ _ rfl), hold_op (.atom _ _ rfl) (.int _ _) o4 (.atom _ _ rfl), hold_op (.atom _ _ rfl) (.int _ _) (by have := (o5 .i64); rw [k5] at this; exact this) (.int _ _), trivial⟩ Zw.i141 rfl rfl (rowsHold_cons (Elem.row v2 (VL.cons (.atom _ _ rfl) VL.nil)) rowsHold_nil) Zw.r141 rfl rfl (Zw.n94 r0 h1 b1 r1q0 )
    ·
      exact Zw.nx Zw.t142 [(.int .i64 (f1q0 2)), (.int .i64 (m1 : Int)), (.int .i64 d3), (.int .i64 d4)] [p2] [(.slice a1 m1 c1)] (Zw.k0 _) ⟨hold_len (.atom _ _ rfl) (.atom _ _ rfl), hold_bool (.int _ _) (.atom _ _ rfl) (op_lss_t q1), hold_idx v2 l2 (.atom _ _ rfl) (.int _ _) (by omega) rfl, hold_op (.atom _ _ rfl) (.int _ _) (o3 .i64) (.atom _ _ rfl), hold_op (.atom _ _ rfl) (.int _ _) o4 (.atom _ _ rfl), hold_op (.atom _ _ rfl) (.int _ _) (by have := (o5 .i64); rw [k5] at this; exact this) (.int _ _), trivial⟩ Zw.i142 rfl rfl (rowsHold_cons (Elem.row v2 (VL.cons (.atom _ _ rfl) VL.nil)) rowsHold_nil) Zw.r142 rfl rfl (Zw.n95 r0 h1 b1 r1q0 )
    ·
      exact Zw.nx Zw.t143 [(.int .i64 (f1q0 2)), (.int .i64 (m1 : Int)), (.int .i64 d3), (.int .i64 d4)] [p2] [(.slice a1 m1 c1)] (Zw.k0 _) ⟨hold_len (.atom _ _ rfl) (.atom _ _ rfl), hold_bool (.int _ _) (.atom _ _ rfl) (op_lss_t q1), hold_idx v2 l2 (.atom _ _ rfl) (.int _ _) (by omega) rfl, hold_op (.atom _ _ rfl) (.int _ _) (o3 .i64) (.atom _ _ rfl), hold_op (.atom _ _ rfl) (.int _ _) o4 (.atom _ _ rfl), hold_op (.atom _ _ rfl) (.int _ _) (by have := (o5 .i64); rw [k5] at this; exact this) (.int _ _), trivial⟩ Zw.i143 rfl rfl (rowsHold_cons (Elem.row v2 (VL.cons (.atom _ _ rfl) VL.nil)) rowsHold_nil) Zw.r143 rfl rfl (Zw.n96 r0 h1 b1 r1q0 )
    ·
      exact Zw.nx Zw.t144 [(.int .i64 (f1q0 2)), (.int .i64 (m1 : Int)), (.int .i64 d3), (.int .i64 d4)] [p2] [(.slice a1 m1 c1)] (Zw.k0 _) ⟨hold_len (.atom _ _ rfl) (.atom _ _ rfl), hold_bool (.int _ _) (.atom _ _ rfl) (op_lss_t q1), hold_idx v2 l2 (.atom _ _ rfl) (.int _ _) (by omega) rfl, hold_op (.atom _ _ rfl) (.int _ _) (o3 .i64) (.atom _ _ rfl), hold_op (.atom _ _ rfl) (.int _ _) o4 (.atom _ _ rfl), hold_op (.atom _ _ rfl) (.int _ _) (by have := (o5 .i64); rw [k5] at this; exact this) (.int _ _), trivial⟩ Zw.i144 rfl rfl (rowsHold_cons (Elem.row v2 (VL.cons (.atom _ _ rfl) VL.nil)) rowsHold_nil) Zw.r144 rfl rfl (Zw.n97 r0 h1 b1 r1q0 )
    ·
      exact Zw.nx Zw.t145 [(.int .i64 (f1q0 2)), (.int .i64 (m1 : Int)), (.int .i64 d3), (.int .i64 d4)] [p2] [(.slice a1 m1 c1)] (Zw.k0 _) ⟨hold_len (.atom _ _ rfl) (.atom _ _ rfl), hold_bool (.int _ _) (.atom _ _ rfl) (op_lss_t q1), hold_idx v2 l2 (.atom _ _ rfl) (.int _ _) (by omega) rfl, hold_op (.atom _ _ rfl) (.int _ _) (o3 .i64) (.atom _ _ rfl), hold_op (.atom _ _ rfl) (.int _ _) o4 (.atom _ _ rfl), hold_op (.atom _ _ rfl) (.int _ _) (by have := (o5 .i64); rw [k5] at this; exact this) (.int _ _), trivial⟩ Zw.i145 rfl rfl (rowsHold_cons (Elem.row v2 (VL.cons (.atom _ _ rfl) VL.nil)) rowsHold_nil) Zw.r145 rfl rfl (Zw.n98 r0 h1 b1 r1q0 )
  ·
    exact Zw.nx Zw.t146 [(.int .i64 (m1 : Int))] [] [(.slice a1 m1 c1)] (Zw.k0 _) ⟨hold_len (.atom _ _ rfl) (.atom _ _ rfl), hold_bool (.int _ _) (.atom _ _ rfl) (op_lss_f (Int.not_lt.1 q1)), trivial⟩ Zw.i146 rfl rfl rowsHold_nil Zw.r146 rfl rfl (Zw.n94 r0 h1 b1 r1q0 )
theorem Zw.n99 {W : World} {n0 : Int} {a1 : Option Addr} {m1 c1 : Nat} {f1q0 : Nat → Int} (r0 : R64 n0) (h1 : SlcOk W a1 m1 c1 1 (fun i => [.int .i64 (f1q0 i)])) (b1 : (m1 : Int) < 9223372036854775808) (r1q0 : ∀ i, R64 (f1q0 i)) : NdGood Tryz.prog Tryz.f6 8 Tryz.H0 W Zw.p0 Zw.d99 [(.slice a1 m1 c1)] := by
  have ⟨rl0, rh0⟩ := r0
  exact Zw.fx Zw.t291 [] [] (Zw.k0 _) trivial Zw.i291 rfl rfl rowsHold_nil Zw.r291
theorem Zw.n100 {W : World} {n0 : Int} {a1 : Option Addr} {m1 c1 : Nat} {f1q0 : Nat → Int} (r0 : R64 n0) (h1 : SlcOk W a1 m1 c1 1 (fun i => [.int .i64 (f1q0 i)])) (b1 : (m1 : Int) < 9223372036854775808) (r1q0 : ∀ i, R64 (f1q0 i)) : NdGood Tryz.prog Tryz.f6 8 Tryz.H0 W Zw.p0 Zw.d100 [(.slice a1 m1 c1)] := by
  have ⟨rl0, rh0⟩ := r0
  exact Zw.fx Zw.t292 [] [] (Zw.k0 _) trivial Zw.i292 rfl rfl rowsHold_nil Zw.r292
theorem Zw.n101 {W : World} {n0 : Int} {a1 : Option Addr} {m1 c1 : Nat} {f1q0 : Nat → Int} (r0 : R64 n0) (h1 : SlcOk W a1 m1 c1 1 (fun i => [.int .i64 (f1q0 i)])) (b1 : (m1 : Int) < 9223372036854775808) (r1q0 : ∀ i, R64 (f1q0 i)) : NdGood Tryz.prog Tryz.f6 8 Tryz.H0 W Zw.p0 Zw.d101 [(.slice a1 m1 c1)] := by
  have ⟨rl0, rh0⟩ := r0
  exact Zw.fx Zw.t293 [] [] (Zw.k0 _) trivial Zw.i293 rfl rfl rowsHold_nil Zw.r293
theorem Zw.n102 {W : World} {n0 : Int} {a1 : Option Addr} {m1 c1 : Nat} {f1q0 : Nat → Int} (r0 : R64 n0) (h1 : SlcOk W a1 m1 c1 1 (fun i => [.int .i64 (f1q0 i)])) (b1 : (m1 : Int) < 9223372036854775808) (r1q0 : ∀ i, R64 (f1q0 i)) : NdGood Tryz.prog Tryz.f6 8 Tryz.H0 W Zw.p0 Zw.d102 [(.slice a1 m1 c1)] := by
  have ⟨rl0, rh0⟩ := r0
  exact Zw.fx Zw.t294 [] [] (Zw.k0 _) trivial Zw.i294 rfl rfl rowsHold_nil Zw.r294
theorem Zw.n103 {W : World} {n0 : Int} {a1 : Option Addr} {m1 c1 : Nat} {f1q0 : Nat → Int} (r0 : R64 n0) (h1 : SlcOk W a1 m1 c1 1 (fun i => [.int .i64 (f1q0 i)])) (b1 : (m1 : Int) < 9223372036854775808) (r1q0 : ∀ i, R64 (f1q0 i)) : NdGood Tryz.prog Tryz.f6 8 Tryz.H0 W Zw.p0 Zw.d103 [(.slice a1 m1 c1)] := by
  have ⟨rl0, rh0⟩ := r0
  exact Zw.fx Zw.t295 [] [] (Zw.k0 _) trivial Zw.i295 rfl rfl rowsHold_nil Zw.r295
theorem Zw.n50 {W : World} {n0 : Int} {a1 : Option Addr} {m1 c1 : Nat} {f1q0 : Nat → Int} (r0 : R64 n0) (h1 : SlcOk W a1 m1 c1 1 (fun i => [.int .i64 (f1q0 i)])) (b1 : (m1 : Int) < 9223372036854775808) (r1q0 : ∀ i, R64 (f1q0 i)) : NdGood Tryz.prog Tryz.f6 8 Tryz.H0 W Zw.p0 Zw.d50 [(.slice a1 m1 c1)] := by
  have ⟨rl0, rh0⟩ := r0
  by_cases q1 : (2 : Int) < (m1 : Int)
  ·
    have l2 : 2 < m1 := by omega
    obtain ⟨p2, v2⟩ := h1.elem l2
    have w2q0 := r1q0 2
    obtain ⟨d3, ⟨y3, e3, z3, u3, w3⟩, g3, o3⟩ := ex_rem (f1q0 2) (5 : Int) (by omega) (by omega)
    obtain ⟨d4, e4, g4, o4⟩ := ex_add d3 (5 : Int)
    obtain ⟨d5, ⟨y5, e5, z5, u5, w5⟩, g5, o5⟩ := ex_rem d4 (5 : Int) (by omega) (by omega)
    rcases (show d5 = 0 ∨ d5 = 1 ∨ d5 = 2 ∨ d5 = 3 ∨ d5 = 4 by omega) with k5 | k5 | k5 | k5 | k5
    ·
      exact Zw.nx Zw.t147 [(.int .i64 (f1q0 2)), (.int .i64 (m1 : Int)), (.int .i64 d3), (.int .i64 d4)] [p2] [(.slice a1 m1 c1)] (Zw.k0 _) ⟨hold_len (.atom _ _ rfl) (.atom _ _ rfl), hold_bool (.int _ _) (.atom _ _ rfl) (op_lss_t q1), hold_idx v2 l2 (.atom _ _ rfl) (.int _ _) (by omega) rfl, hold_op (.atom _ _ rfl) (.int _ _) (o3 .i64) (.atom _ _ rfl), hold_op (.atom _ _ rfl) (.int _ _) o4 (.atom _ _ rfl), hold_op (.atom _ _ rfl) (.int _ _) (by have := (o5 .i64); rw [k5] at this; exact this) (.int _ _), trivial⟩ Zw.i147 rfl rfl (rowsHold_cons (Elem.row v2 (VL.cons (.atom _ _ rfl) VL.nil)) rowsHold_nil) Zw.r147 rfl rfl (Zw.n99 r0 h1 b1 r1q0 )
    ·
      exact Zw.nx Zw.t148 [(.int .i64 (f1q0 2)), (.int .i64 (m1 : Int)), (.int .i64 d3), (.int .i64 d4)] [p2] [(.slice a1 m1 c1)] (Zw.k0 _) ⟨hold_len (.atom _ _ rfl) (.atom _ _ rfl), hold_bool (.int _ _) (.atom _ _ rfl) (op_lss_t q1), hold_idx v2 l2 (.atom _ _ rfl) (.int _ _) (by omega) rfl, hold_op (.atom _ _ rfl) (.int _ _) (o3 .i64) (.atom _ _ rfl), hold_op (.atom _ _ rfl) (.int _ _) o4 (.atom _ _ rfl), hold_op (.atom _ _ rfl) (.int _ _) (by have := (o5 .i64); rw [k5] at this; exact this) (.int _ _), trivial⟩ Zw.i148 rfl rfl (rowsHold_cons (Elem.row v2 (VL.cons (.atom _ _ rfl) VL.nil)) rowsHold_nil) Zw.r148 rfl rfl (Zw.n100 r0 h1 b1 r1q0 )
    ·
      exact Zw.nx Zw.t149 [(.int .i64 (f1q0 2)), (.int .i64 (m1 : Int)), (.int .i64 d3), (.int .i64 d4)] [p2] [(.slice a1 m1 c1)] (Zw.k0 _) ⟨hold_len (.atom _ _ rfl) (.atom _ _ rfl), hold_bool (.int _ _) (.atom _ _ rfl) (op_lss_t q1), hold_idx v2 l2 (.atom _ _ rfl) (.int _ _) (by omega) rfl, hold_op (.atom _ _ rfl) (.int _ _) (o3 .i64) (.atom _ _ rfl), hold_op (.atom _ _ rfl) (.int _ _) o4 (.atom _ _ rfl), hold_op (.atom _ _ rfl) (.int _ _) (by have := (o5 .i64); rw [k5] at this; exact this) (.int _ _), trivial⟩ Zw.i149 rfl rfl (rowsHold_cons (Elem.row v2 (VL.cons (.atom _ _ rfl) VL.nil)) rowsHold_nil) Zw.r149 rfl rfl (Zw.n101 r0 h1 b1 r1q0 )
    ·
      exact Zw.nx Zw.t150 [(.int .i64 (f1q0 2)), (.int .i64 (m1 : Int)), (.int .i64 d3), (.int .i64 d4)] [p2] [(.slice a1 m1 c1)] (Zw.k0 _) ⟨hold_len (.atom _ _ rfl) (.atom _ _ rfl), hold_bool (.int _ _) (.atom _ _ rfl) (op_lss_t q1), hold_idx v2 l2 (.atom _ _ rfl) (.int _ _) (by omega) rfl, hold_op (.atom _ _ rfl) (.int _ _) (o3 .i64) (.atom _ _ rfl), hold_op (.atom _ _ rfl) (.int _ _) o4 (.atom _ _ rfl), hold_op (.atom _ _ rfl) (.int _ _) (by have := (o5 .i64); rw [k5] at this; exact this) (.int _ _), trivial⟩ Zw.i150 rfl rfl (rowsHold_cons (Elem.row v2 (VL.cons (.atom _ _ rfl) VL.nil)) rowsHold_nil) Zw.r150 rfl rfl (Zw.n102 r0 h1 b1 r1q0 )
    ·
      exact Zw.nx Zw.t151 [(.int .i64 (f1q0 2)), (.int .i64 (m1 : Int)), (.int .i64 d3), (.int .i64 d4)] [p2] [(.slice a1 m1 c1)] (Zw.k0 _) ⟨hold_len (.atom _ _ rfl) (.atom _ _ rfl), hold_bool (.int _ _) (.atom _ _ rfl) (op_lss_t q1), hold_idx v2 l2 (.atom _ _ rfl) (.int _ _) (by omega) rfl, hold_op (.atom _ _ rfl) (.int _ _) (o3 .i64) (.atom _ _ rfl), hold_op (.atom _ _ rfl) (.int _ _) o4 (.atom _ _ rfl), hold_op (.atom _ _ rfl) (.int _ _) (by have := (o5 .i64); rw [k5] at this; exact this) (.int _ _), trivial⟩ Zw.i151 rfl rfl (rowsHold_cons (Elem.row v2 (VL.cons (.atom _ _ rfl) VL.nil)) rowsHold_nil) Zw.r151 rfl rfl (Zw.n103 r0 h1 b1 r1q0 )
  ·
    exact Zw.nx Zw.t152 [(.int .i64 (m1 : Int))] [] [(.slice a1 m1 c1)] (Zw.k0 _) ⟨hold_len (.atom _ _ rfl) (.atom _ _ rfl), hold_bool (.int _ _) (.atom _ _ rfl) (op_lss_f (Int.not_lt.1 q1)), trivial⟩ Zw.i152 rfl rfl rowsHold_nil Zw.r152 rfl rfl (Zw.n99 r0 h1 b1 r1q0 )
theorem Zw.n104 {W : World} {n0 : Int} {a1 : Option Addr} {m1 c1 : Nat} {f1q0 : Nat → Int} (r0 : R64 n0) (h1 : SlcOk W a1 m1 c1 1 (fun i => [.int .i64 (f1q0 i)])) (b1 : (m1 : Int) < 9223372036854775808) (r1q0 : ∀ i, R64 (f1q0 i)) : NdGood Tryz.prog Tryz.f6 8 Tryz.H0 W Zw.p0 Zw.d104 [(.slice a1 m1 c1)] := by
  have ⟨rl0, rh0⟩ := r0
  exact Zw.fx Zw.t296 [] [] (Zw.k0 _) trivial Zw.i296 rfl rfl rowsHold_nil Zw.r296
theorem Zw.n105 {W : World} {n0 : Int} {a1 : Option Addr} {m1 c1 : Nat} {f1q0 : Nat → Int} (r0 : R64 n0) (h1 : SlcOk W a1 m1 c1 1 (fun i => [.int .i64 (f1q0 i)])) (b1 : (m1 : Int) < 9223372036854775808) (r1q0 : ∀ i, R64 (f1q0 i)) : NdGood Tryz.prog Tryz.f6 8 Tryz.H0 W Zw.p0 Zw.d105 [(.slice a1 m1 c1)] := by
  have ⟨rl0, rh0⟩ := r0
  exact Zw.fx Zw.t297 [] [] (Zw.k0 _) trivial Zw.i297 rfl rfl rowsHold_nil Zw.r297
theorem Zw.n106 {W : World} {n0 : Int} {a1 : Option Addr} {m1 c1 : Nat} {f1q0 : Nat → Int} (r0 : R64 n0) (h1 : SlcOk W a1 m1 c1 1 (fun i => [.int .i64 (f1q0 i)])) (b1 : (m1 : Int) < 9223372036854775808) (r1q0 : ∀ i, R64 (f1q0 i)) : NdGood Tryz.prog Tryz.f6 8 Tryz.H0 W Zw.p0 Zw.d106 [(.slice a1 m1 c1)] := by
  have ⟨rl0, rh0⟩ := r0
  exact Zw.fx Zw.t298 [] [] (Zw.k0 _) trivial Zw.i298 rfl rfl rowsHold_nil Zw.r298
theorem Zw.n107 {W : World} {n0 : Int} {a1 : Option Addr} {m1 c1 : Nat} {f1q0 : Nat → Int} (r0 : R64 n0) (h1 : SlcOk W a1 m1 c1 1 (fun i => [.int .i64 (f1q0 i)])) (b1 : (m1 : Int) < 9223372036854775808) (r1q0 : ∀ i, R64 (f1q0 i)) : NdGood Tryz.prog Tryz.f6 8 Tryz.H0 W Zw.p0 Zw.d107 [(.slice a1 m1 c1)] := by
  have ⟨rl0, rh0⟩ := r0
  exact Zw.fx Zw.t299 [] [] (Zw.k0 _) trivial Zw.i299 rfl rfl rowsHold_nil Zw.r299
theorem Zw.n108 {W : World} {n0 : Int} {a1 : Option Addr} {m1 c1 : Nat} {f1q0 : Nat → Int} (r0 : R64 n0) (h1 : SlcOk W a1 m1 c1 1 (fun i => [.int .i64 (f1q0 i)])) (b1 : (m1 : Int) < 9223372036854775808) (r1q0 : ∀ i, R64 (f1q0 i)) : NdGood Tryz.prog Tryz.f6 8 Tryz.H0 W Zw.p0 Zw.d108 [(.slice a1 m1 c1)] := by
  have ⟨rl0, rh0⟩ := r0
  exact Zw.fx Zw.t300 [] [] (Zw.k0 _) trivial Zw.i300 rfl rfl rowsHold_nil Zw.r300
theorem Zw.n51 {W : World} {n0 : Int} {a1 : Option Addr} {m1 c1 : Nat} {f1q0 : Nat → Int} (r0 : R64 n0) (h1 : SlcOk W a1 m1 c1 1 (fun i => [.int .i64 (f1q0 i)])) (b1 : (m1 : Int) < 9223372036854775808) (r1q0 : ∀ i, R64 (f1q0 i)) : NdGood Tryz.prog Tryz.f6 8 Tryz.H0 W Zw.p0 Zw.d51 [(.slice a1 m1 c1)] := by
  have ⟨rl0, rh0⟩ := r0
  by_cases q1 : (2 : Int) < (m1 : Int)
  ·
    have l2 : 2 < m1 := by omega
    obtain ⟨p2, v2⟩ := h1.elem l2
    have w2q0 := r1q0 2
    obtain ⟨d3, ⟨y3, e3, z3, u3, w3⟩, g3, o3⟩ := ex_rem (f1q0 2) (5 : Int) (by omega) (by omega)
    obtain ⟨d4, e4, g4, o4⟩ := ex_add d3 (5 : Int)
    obtain ⟨d5, ⟨y5, e5, z5, u5, w5⟩, g5, o5⟩ := ex_rem d4 (5 : Int) (by omega) (by omega)
    rcases (show d5 = 0 ∨ d5 = 1 ∨ d5 = 2 ∨ d5 = 3 ∨ d5 = 4 by omega) with k5 | k5 | k5 | k5 | k5
    ·
      exact Zw.nx Zw.t153 [(.int .i64 (f1q0 2)), (.int .i64 (m1 : Int)), (.int .i64 d3), (.int .i64 d4)] [p2] [(.slice a1 m1 c1)] (Zw.k0 _) ⟨hold_len (.atom _ _ rfl) (.atom _ _ rfl), hold_bool (.int _ _) (.atom _ _ rfl) (op_lss_t q1), hold_idx v2 l2 (.atom _ _ rfl) (.int _ _) (by omega) rfl, hold_op (.atom _ _ rfl) (.int _ _) (o3 .i64) (.atom _ _ rfl), hold_op (.atom _ _ rfl) (.int _ _) o4 (.atom _ _ rfl), hold_op (.atom _ _ rfl) (.int _ _) (by have := (o5 .i64); rw [k5] at this; exact this) (.int _ _), trivial⟩ Zw.i153 rfl rfl (rowsHold_cons (Elem.row v2 (VL.cons (.atom _ _ rfl) VL.nil)) rowsHold_nil) Zw.r153 rfl rfl (Zw.n104 r0 h1 b1 r1q0 )
    ·
      exact Zw.nx Zw.t154 [(.int .i64 (f1q0 2)), (.int .i64 (m1 : Int)), (.int .i64 d3), (.int .i64 d4)] [p2] [(.slice a1 m1 c1)] (Zw.k0 _) ⟨hold_len (.atom _ _ rfl) (.atom _ _ rfl), hold_bool (.int _ _) (.atom _ _ rfl) (op_lss_t q1), hold_idx v2 l2 (.atom _ _ rfl) (.int _ _) (by omega) rfl, hold_op (.atom _ _ rfl) (.int _ _) (o3 .i64) (.atom _ _ rfl), hold_op (.atom _ _ rfl) (.int _ _) o4 (.atom _ _ rfl), hold_op (.atom _ _ rfl) (.int _ _) (by have := (o5 .i64); rw [k5] at this; exact this) (.int _ _), trivial⟩ Zw.i154 rfl rfl (rowsHold_cons (Elem.row v2 (VL.cons (.atom _ _ rfl) VL.nil)) rowsHold_nil) Zw.r154 rfl rfl (Zw.n105 r0 h1 b1 r1q0 )
    ·
      exact Zw.nx Zw.t155 [(.int .i64 (f1q0 2)), (.int .i64 (m1 : Int)), (.int .i64 d3), (.int .i64 d4)] [p2] [(.slice a1 m1 c1)] (Zw.k0 _) ⟨hold_len (.atom _ _ rfl) (.atom _ _ rfl), hold_bool (.int _ _) (.atom _ _ rfl) (op_lss_t q1), hold_idx v2 l2 (.atom _ _ rfl) (.int _ _) (by omega) rfl, hold_op (.atom _ _ rfl) (.int _ _) (o3 .i64) (.atom _ _ rfl), hold_op (.atom _ _ rfl) (.int _ _) o4 (.atom _ _ rfl), hold_op (.atom _ _ rfl) (.int _ _) (by have := (o5 .i64); rw [k5] at this; exact this) (.int _ _), trivial⟩ Zw.i155 rfl rfl (rowsHold_cons (Elem.row v2 (VL.cons (.atom _ _ rfl) VL.nil)) rowsHold_nil) Zw.r155 rfl rfl (Zw.n106 r0 h1 b1 r1q0 )
    ·
      exact Zw.nx Zw.t156 [(.int .i64 (f1q0 2)), (.int .i64 (m1 : Int)), (.int .i64 d3), (.int .i64 d4)] [p2] [(.slice a1 m1 c1)] (Zw.k0 _) ⟨hold_len (.atom _ _ rfl) (.atom _ _ rfl), hold_bool (.int _ _) (.atom _ _ rfl) (op_lss_t q1), hold_idx v2 l2 (.atom _ _ rfl) (.int _ _) (by omega) rfl, hold_op (.atom _ _ rfl) (.int _ _) (o3 .i64) (.atom _ _ rfl), hold_op (.atom _ _ rfl) (.int _ _) o4 (.atom _ _ rfl), hold_op (.atom _ _ rfl) (.int _ _) (by have := (o5 .i64); rw [k5] at this; exact this) (.int _ _), trivial⟩ Zw.i156 rfl rfl (rowsHold_cons (Elem.row v2 (VL.cons (.atom _ _ rfl) VL.nil)) rowsHold_nil) Zw.r156 rfl rfl (Zw.n107 r0 h1 b1 r1q0 )
    ·
      exact Zw.nx Zw.t157 [(.int .i64 (f1q0 2)), (.int .i64 (m1 : Int)), (.int .i64 d3), (.int .i64 d4)] [p2] [(.slice a1 m1 c1)] (Zw.k0 _) ⟨hold_len (.atom _ _ rfl) (.atom _ _ rfl), hold_bool (.int _ _) (.atom _ _ rfl) (op_lss_t q1), hold_idx v2 l2 (.atom _ _ rfl) (.int _ _) (by omega) rfl, hold_op (.atom _ _ rfl) (.int _ _) (o3 .i64) (.atom _ _ rfl), hold_op (.atom _ _ rfl) (.int _ _) o4 (.atom _ _ rfl), hold_op (.atom _ _ rfl) (.int _ _) (by have := (o5 .i64); rw [k5] at this; exact this) (.int _ _), trivial⟩ Zw.i157 rfl rfl (rowsHold_cons (Elem.row v2 (VL.cons (.atom _ _ rfl) VL.nil)) rowsHold_nil) Zw.r157 rfl rfl (Zw.n108 r0 h1 b1 r1q0 )
  ·
    exact Zw.nx Zw.t158 [(.int .i64 (m1 : Int))] [] [(.slice a1 m1 c1)] (Zw.k0 _) ⟨hold_len (.atom _ _ rfl) (.atom _ _ rfl), hold_bool (.int _ _) (.atom _ _ rfl) (op_lss_f (Int.not_lt.1 q1)), trivial⟩ Zw.i158 rfl rfl rowsHold_nil Zw.r158 rfl rfl (Zw.n104 r0 h1 b1 r1q0 )
theorem Zw.n109 {W : World} {n0 : Int} {a1 : Option Addr} {m1 c1 : Nat} {f1q0 : Nat → Int} (r0 : R64 n0) (h1 : SlcOk W a1 m1 c1 1 (fun i => [.int .i64 (f1q0 i)])) (b1 : (m1 : Int) < 9223372036854775808) (r1q0 : ∀ i, R64 (f1q0 i)) : NdGood Tryz.prog Tryz.f6 8 Tryz.H0 W Zw.p0 Zw.d109 [(.slice a1 m1 c1)] := by
  have ⟨rl0, rh0⟩ := r0
  exact Zw.fx Zw.t301 [] [] (Zw.k0 _) trivial Zw.i301 rfl rfl rowsHold_nil Zw.r301
theorem Zw.n110 {W : World} {n0 : Int} {a1 : Option Addr} {m1 c1 : Nat} {f1q0 : Nat → Int} (r0 : R64 n0) (h1 : SlcOk W a1 m1 c1 1 (fun i => [.int .i64 (f1q0 i)])) (b1 : (m1 : Int) < 9223372036854775808) (r1q0 : ∀ i, R64 (f1q0 i)) : NdGood Tryz.prog Tryz.f6 8 Tryz.H0 W Zw.p0 Zw.d110 [(.slice a1 m1 c1)] := by
  have ⟨rl0, rh0⟩ := r0
  exact Zw.fx Zw.t302 [] [] (Zw.k0 _) trivial Zw.i302 rfl rfl rowsHold_nil Zw.r302
theorem Zw.n111 {W : World} {n0 : Int} {a1 : Option Addr} {m1 c1 : Nat} {f1q0 : Nat → Int} (r0 : R64 n0) (h1 : SlcOk W a1 m1 c1 1 (fun i => [.int .i64 (f1q0 i)])) (b1 : (m1 : Int) < 9223372036854775808) (r1q0 : ∀ i, R64 (f1q0 i)) : NdGood Tryz.prog Tryz.f6 8 Tryz.H0 W Zw.p0 Zw.d111 [(.slice a1 m1 c1)] := by
  have ⟨rl0, rh0⟩ := r0
  exact Zw.fx Zw.t303 [] [] (Zw.k0 _) trivial Zw.i303 rfl rfl rowsHold_nil Zw.r303
theorem Zw.n112 {W : World} {n0 : Int} {a1 : Option Addr} {m1 c1 : Nat} {f1q0 : Nat → Int} (r0 : R64 n0) (h1 : SlcOk W a1 m1 c1 1 (fun i => [.int .i64 (f1q0 i)])) (b1 : (m1 : Int) < 9223372036854775808) (r1q0 : ∀ i, R64 (f1q0 i)) : NdGood Tryz.prog Tryz.f6 8 Tryz.H0 W Zw.p0 Zw.d112 [(.slice a1 m1 c1)] := by
  have ⟨rl0, rh0⟩ := r0
  exact Zw.fx Zw.t304 [] [] (Zw.k0 _) trivial Zw.i304 rfl rfl rowsHold_nil Zw.r304
theorem Zw.n113 {W : World} {n0 : Int} {a1 : Option Addr} {m1 c1 : Nat} {f1q0 : Nat → Int} (r0 : R64 n0) (h1 : SlcOk W a1 m1 c1 1 (fun i => [.int .i64 (f1q0 i)])) (b1 : (m1 : Int) < 9223372036854775808) (r1q0 : ∀ i, R64 (f1q0 i)) : NdGood Tryz.prog Tryz.f6 8 Tryz.H0 W Zw.p0 Zw.d113 [(.slice a1 m1 c1)] := by
  have ⟨rl0, rh0⟩ := r0
  exact Zw.fx Zw.t305 [] [] (Zw.k0 _) trivial Zw.i305 rfl rfl rowsHold_nil Zw.r305
theorem Zw.n52 {W : World} {n0 : Int} {a1 : Option Addr} {m1 c1 : Nat} {f1q0 : Nat → Int} (r0 : R64 n0) (h1 : SlcOk W a1 m1 c1 1 (fun i => [.int .i64 (f1q0 i)])) (b1 : (m1 : Int) < 9223372036854775808) (r1q0 : ∀ i, R64 (f1q0 i)) : NdGood Tryz.prog Tryz.f6 8 Tryz.H0 W Zw.p0 Zw.d52 [(.slice a1 m1 c1)] := by
  have ⟨rl0, rh0⟩ := r0
  by_cases q1 : (2 : Int) < (m1 : Int)
  ·
    have l2 : 2 < m1 := by omega
    obtain ⟨p2, v2⟩ := h1.elem l2
    have w2q0 := r1q0 2
    obtain ⟨d3, ⟨y3, e3, z3, u3, w3⟩, g3, o3⟩ := ex_rem (f1q0 2) (5 : Int) (by omega) (by omega)
    obtain ⟨d4, e4, g4, o4⟩ := ex_add d3 (5 : Int)
    obtain ⟨d5, ⟨y5, e5, z5, u5, w5⟩, g5, o5⟩ := ex_rem d4 (5 : Int) (by omega) (by omega)
    rcases (show d5 = 0 ∨ d5 = 1 ∨ d5 = 2 ∨ d5 = 3 ∨ d5 = 4 by omega) with k5 | k5 | k5 | k5 | k5
    ·
      exact Zw.nx Zw.t159 [(.int .i64 (f1q0 2)), (.int .i64 (m1 : Int)), (.int .i64 d3), (.int .i64 d4)] [p2] [(.slice a1 m1 c1)] (Zw.k0 _) ⟨hold_len (.atom _ _ rfl) (.atom _ _ rfl), hold_bool (.int _ _) (.atom _ _ rfl) (op_lss_t q1), hold_idx v2 l2 (.atom _ _ rfl) (.int _ _) (by omega) rfl, hold_op (.atom _ _ rfl) (.int _ _) (o3 .i64) (.atom _ _ rfl), hold_op (.atom _ _ rfl) (.int _ _) o4 (.atom _ _ rfl), hold_op (.atom _ _ rfl) (.int _ _) (by have := (o5 .i64); rw [k5] at this; exact this) (.int _ _), trivial⟩ Zw.i159 rfl rfl (rowsHold_cons (Elem.row v2 (VL.cons (.atom _ _ rfl) VL.nil)) rowsHold_nil) Zw.r159 rfl rfl (Zw.n109 r0 h1 b1 r1q0 )
    ·
      exact Zw.nx Zw.t160 [(.int .i64 (f1q0 2)), (.int .i64 (m1 : Int)), (.int .i64 d3), (.int .i64 d4)] [p2] [(.slice a1 m1 c1)] (Zw.k0 _) ⟨hold_len (.atom _ _ rfl) (.atom _ _ rfl), hold_bool (.int _ _) (.atom _ _ rfl) (op_lss_t q1), hold_idx v2 l2 (.atom _ _ rfl) (.int _ _) (by omega) rfl, hold_op (.atom _ _ rfl) (.int _ _) (o3 .i64) (.atom _ _ rfl), hold_op (.atom _ _ rfl) (.int _ _) o4 (.atom _ _ rfl), hold_op (.atom _ _ rfl) (.int _ _) (by have := (o5 .i64); rw [k5] at this; exact this) (.int _ _), trivial⟩ Zw.i160 rfl rfl (rowsHold_cons (Elem.row v2 (VL.cons (.atom _ _ rfl) VL.nil)) rowsHold_nil) Zw.r160 rfl rfl (Zw.n110 r0 h1 b1 r1q0 )
    ·
      exact Zw.nx Zw.t161 [(.int .i64 (f1q0 2)), (.int .i64 (m1 : Int)), (.int .i64 d3), (.int .i64 d4)] [p2] [(.slice a1 m1 c1)] (Zw.k0 _) ⟨hold_len (.atom _ _ rfl) (.atom _ _ rfl), hold_bool (.int _ _) (.atom _ _ rfl) (op_lss_t q1), hold_idx v2 l2 (.atom _ _ rfl) (.int _ _) (by omega) rfl, hold_op (.atom _ _ rfl) (.int _ _) (o3 .i64) (.atom _ _ rfl), hold_op (.atom _ _ rfl) (.int _ _) o4 (.atom _ _ rfl), hold_op (.atom _ _ rfl) (.int _ _) (by have := (o5 .i64); rw [k5] at this; exact this) (.int _ _), trivial⟩ Zw.i161 rfl rfl (rowsHold_cons (Elem.row v2 (VL.cons (.atom _ _ rfl) VL.nil)) rowsHold_nil) Zw.r161 rfl rfl (Zw.n111 r0 h1 b1 r1q0 )
    ·
      exact Zw.nx Zw.t162 [(.int .i64 (f1q0 2)), (.int .i64 (m1 : Int)), (.int .i64 d3), (.int .i64 d4)] [p2] [(.slice a1 m1 c1)] (Zw.k0 _) ⟨hold_len (.atom _ _ rfl) (.atom _ _ rfl), hold_bool (.int _ _) (.atom _ _ rfl) (op_lss_t q1), hold_idx v2 l2 (.atom _ _ rfl) (.int _ _) (by omega) rfl, hold_op (.atom _ _ rfl) (.int _ _) (o3 .i64) (.atom _ _ rfl), hold_op (.atom _ _ rfl) (.int _ _) o4 (.atom _ _ rfl), hold_op (.atom _ _ rfl) (.int _ _) (by have := (o5 .i64); rw [k5] at this; exact this) (.int _ _), trivial⟩ Zw.i162 rfl rfl (rowsHold_cons (Elem.row v2 (VL.cons (.atom _ _ rfl) VL.nil)) rowsHold_nil) Zw.r162 rfl rfl (Zw.n112 r0 h1 b1 r1q0 )
    ·
      exact Zw.nx Zw.t163 [(.int .i64 (f1q0 2)), (.int .i64 (m1 : Int)), (.int .i64 d3), (.int .i64 d4)] [p2] [(.slice a1 m1 c1)] (Zw.k0 _) ⟨hold_len (.atom _ _ rfl) (.atom _ _ rfl), hold_bool (.int _ _) (.atom _ _ rfl) (op_lss_t q1), hold_idx v2 l2 (.atom _ _ rfl) (.int _ _) (by omega) rfl, hold_op (.atom _ _ rfl) (.int _ _) (o3 .i64) (.atom _ _ rfl), hold_op (.atom _ _ rfl) (.int _ _) o4 (.atom _ _ rfl), hold_op (.atom _ _ rfl) (.int _ _) (by have := (o5 .i64); rw [k5] at this; exact this) (.int _ _), trivial⟩ Zw.i163 rfl rfl (rowsHold_cons (Elem.row v2 (VL.cons (.atom _ _ rfl) VL.nil)) rowsHold_nil) Zw.r163 rfl rfl (Zw.n113 r0 h1 b1 r1q0 )
  ·
    exact Zw.nx Zw.t164 [(.int .i64 (m1 : Int))] [] [(.slice a1 m1 c1)] (Zw.k0 _) ⟨hold_len (.atom _ _ rfl) (.atom _ _ rfl), hold_bool (.int _ _) (.atom _ _ rfl) (op_lss_f (Int.not_lt.1 q1)), trivial⟩ Zw.i164 rfl rfl rowsHold_nil Zw.r164 rfl rfl (Zw.n109 r0 h1 b1 r1q0 )
theorem Zw.n114 {W : World} {n0 : Int} {a1 : Option Addr} {m1 c1 : Nat} {f1q0 : Nat → Int} (r0 : R64 n0) (h1 : SlcOk W a1 m1 c1 1 (fun i => [.int .i64 (f1q0 i)])) (b1 : (m1 : Int) < 9223372036854775808) (r1q0 : ∀ i, R64 (f1q0 i)) : NdGood Tryz.prog Tryz.f6 8 Tryz.H0 W Zw.p0 Zw.d114 [(.slice a1 m1 c1)] := by
  have ⟨rl0, rh0⟩ := r0
  exact Zw.fx Zw.t306 [] [] (Zw.k0 _) trivial Zw.i306 rfl rfl rowsHold_nil Zw.r306
theorem Zw.n115 {W : World} {n0 : Int} {a1 : Option Addr} {m1 c1 : Nat} {f1q0 : Nat → Int} (r0 : R64 n0) (h1 : SlcOk W a1 m1 c1 1 (fun i => [.int .i64 (f1q0 i)])) (b1 : (m1 : Int) < 9223372036854775808) (r1q0 : ∀ i, R64 (f1q0 i)) : NdGood Tryz.prog Tryz.f6 8 Tryz.H0 W Zw.p0 Zw.d115 [(.slice a1 m1 c1)] := by
  have ⟨rl0, rh0⟩ := r0
  exact Zw.fx Zw.t307 [] [] (Zw.k0 _) trivial Zw.i307 rfl rfl rowsHold_nil Zw.r307
theorem Zw.n116 {W : World} {n0 : Int} {a1 : Option Addr} {m1 c1 : Nat} {f1q0 : Nat → Int} (r0 : R64 n0) (h1 : SlcOk W a1 m1 c1 1 (fun i => [.int .i64 (f1q0 i)])) (b1 : (m1 : Int) < 9223372036854775808) (r1q0 : ∀ i, R64 (f1q0 i)) : NdGood Tryz.prog Tryz.f6 8 Tryz.H0 W Zw.p0 Zw.d116 [(.slice a1 m1 c1)] := by
  have ⟨rl0, rh0⟩ := r0
  exact Zw.fx Zw.t308 [] [] (Zw.k0 _) trivial Zw.i308 rfl rfl rowsHold_nil Zw.r308
theorem Zw.n117 {W : World} {n0 : Int} {a1 : Option Addr} {m1 c1 : Nat} {f1q0 : Nat → Int} (r0 : R64 n0) (h1 : SlcOk W a1 m1 c1 1 (fun i => [.int .i64 (f1q0 i)])) (b1 : (m1 : Int) < 9223372036854775808) (r1q0 : ∀ i, R64 (f1q0 i)) : NdGood Tryz.prog Tryz.f6 8 Tryz.H0 W Zw.p0 Zw.d117 [(.slice a1 m1 c1)] := by
  have ⟨rl0, rh0⟩ := r0
  exact Zw.fx Zw.t309 [] [] (Zw.k0 _) trivial Zw.i309 rfl rfl rowsHold_nil Zw.r309
theorem Zw.n118 {W : World} {n0 : Int} {a1 : Option Addr} {m1 c1 : Nat} {f1q0 : Nat → Int} (r0 : R64 n0) (h1 : SlcOk W a1 m1 c1 1 (fun i => [.int .i64 (f1q0 i)])) (b1 : (m1 : Int) < 9223372036854775808) (r1q0 : ∀ i, R64 (f1q0 i)) : NdGood Tryz.prog Tryz.f6 8 Tryz.H0 W Zw.p0 Zw.d118 [(.slice a1 m1 c1)] := by
  have ⟨rl0, rh0⟩ := r0
  exact Zw.fx Zw.t310 [] [] (Zw.k0 _) trivial Zw.i310 rfl rfl rowsHold_nil Zw.r310
theorem Zw.n53 {W : World} {n0 : Int} {a1 : Option Addr} {m1 c1 : Nat} {f1q0 : Nat → Int} (r0 : R64 n0) (h1 : SlcOk W a1 m1 c1 1 (fun i => [.int .i64 (f1q0 i)])) (b1 : (m1 : Int) < 9223372036854775808) (r1q0 : ∀ i, R64 (f1q0 i)) : NdGood Tryz.prog Tryz.f6 8 Tryz.H0 W Zw.p0 Zw.d53 [(.slice a1 m1 c1)] := by
  have ⟨rl0, rh0⟩ := r0
  by_cases q1 : (2 : Int) < (m1 : Int)
  ·
    have l2 : 2 < m1 := by omega
    obtain ⟨p2, v2⟩ := h1.elem l2
    have w2q0 := r1q0 2
    obtain ⟨d3, ⟨y3, e3, z3, u3, w3⟩, g3, o3⟩ := ex_rem (f1q0 2) (5 : Int) (by omega) (by omega)
    obtain ⟨d4, e4, g4, o4⟩ := ex_add d3 (5 : Int)
    obtain ⟨d5, ⟨y5, e5, z5, u5, w5⟩, g5, o5⟩ := ex_rem d4 (5 : Int) (by omega) (by omega)
    rcases (show d5 = 0 ∨ d5 = 1 ∨ d5 = 2 ∨ d5 = 3 ∨ d5 = 4 by omega) with k5 | k5 | k5 | k5 | k5
    ·
      exact Zw.nx Zw.t165 [(.int .i64 (f1q0 2)), (.int .i64 (m1 : Int)), (.int .i64 d3), (.int .i64 d4)] [p2] [(.slice a1 m1 c1)] (Zw.k0 _) ⟨hold_len (.atom _ _ rfl) (.atom _ _ rfl), hold_bool (.int _ _) (.atom _ _ rfl) (op_lss_t q1), hold_idx v2 l2 (.atom _ _ rfl) (.int _ _) (by omega) rfl, hold_op (.atom _ _ rfl) (.int _ _) (o3 .i64) (.atom _ _ rfl), hold_op (.atom _ _ rfl) (.int _ _) o4 (.atom _ _ rfl), hold_op (.atom _ _ rfl) (.int _ _) (by have := (o5 .i64); rw [k5] at this; exact this) (.int _ _), trivial⟩ Zw.i165 rfl rfl (rowsHold_cons (Elem.row v2 (VL.cons (.atom _ _ rfl) VL.nil)) rowsHold_nil) Zw.r165 rfl rfl (Zw.n114 r0 h1 b1 r1q0 )
    ·
      exact Zw.nx Zw.t166 [(.int .i64 (f1q0 2)), (.int .i64 (m1 : Int)), (.int .i64 d3), (.int .i64 d4)] [p2] [(.slice a1 m1 c1)] (Zw.k0 _) ⟨hold_len (.atom _ _ rfl) (.atom _ _ rfl), hold_bool (.int _ _) (.atom _ _ rfl) (op_lss_t q1), hold_idx v2 l2 (.atom _ _ rfl) (.int _ _) (by omega) rfl, hold_op (.atom _ _ rfl) (.int _ _) (o3 .i64) (.atom _ _ rfl), hold_op (.atom _ _ rfl) (.int _ _) o4 (.atom _ _ rfl), hold_op (.atom _ _ rfl) (.int _ _) (by have := (o5 .i64); rw [k5] at this; exact this) (.int _ _), trivial⟩ Zw.i166 rfl rfl (rowsHold_cons (Elem.row v2 (VL.cons (.atom _ _ rfl) VL.nil)) rowsHold_nil) Zw.r166 rfl rfl (Zw.n115 r0 h1 b1 r1q0 )
    ·
      exact Zw.nx Zw.t167 [(.int .i64 (f1q0 2)), (.int .i64 (m1 : Int)), (.int .i64 d3), (.int .i64 d4)] [p2] [(.slice a1 m1 c1)] (Zw.k0 _) ⟨hold_len (.atom _ _ rfl) (.atom _ _ rfl), hold_bool (.int _ _) (.atom _ _ rfl) (op_lss_t q1), hold_idx v2 l2 (.atom _ _ rfl) (.int _ _) (by omega) rfl, hold_op (.atom _ _ rfl) (.int _ _) (o3 .i64) (.atom _ _ rfl), hold_op (.atom _ _ rfl) (.int _ _) o4 (.atom _ _ rfl), hold_op (.atom _ _ rfl) (.int _ _) (by have := (o5 .i64); rw [k5] at this; exact this) (.int _ _), trivial⟩ Zw.i167 rfl rfl (rowsHold_cons (Elem.row v2 (VL.cons (.atom _ _ rfl) VL.nil)) rowsHold_nil) Zw.r167 rfl rfl (Zw.n116 r0 h1 b1 r1q0 )
    ·
      exact Zw.nx Zw.t168 [(.int .i64 (f1q0 2)), (.int .i64 (m1 : Int)), (.int .i64 d3), (.int .i64 d4)] [p2] [(.slice a1 m1 c1)] (Zw.k0 _) ⟨hold_len (.atom _ _ rfl) (.atom _ _ rfl), hold_bool (.int _ _) (.atom _ _ rfl) (op_lss_t q1), hold_idx v2 l2 (.atom _ _ rfl) (.int _ _) (by omega) rfl, hold_op (.atom _ _ rfl) (.int _ _) (o3 .i64) (.atom _ _ rfl), hold_op (.atom _ _ rfl) (.int _ _) o4 (.atom _ _ rfl), hold_op (.atom _ _ rfl) (.int _ _) (by have := (o5 .i64); rw [k5] at this; exact this) (.int _ _), trivial⟩ Zw.i168 rfl rfl (rowsHold_cons (Elem.row v2 (VL.cons (.atom _ _ rfl) VL.nil)) rowsHold_nil) Zw.r168 rfl rfl (Zw.n117 r0 h1 b1 r1q0 )
    ·
      exact Zw.nx Zw.t169 [(.int .i64 (f1q0 2)), (.int .i64 (m1 : Int)), (.int .i64 d3), (.int .i64 d4)] [p2] [(.slice a1 m1 c1)] (Zw.k0 _) ⟨hold_len (.atom _ _ rfl) (.atom _ _ rfl), hold_bool (.int _ _) (.atom _ _ rfl) (op_lss_t q1), hold_idx v2 l2 (.atom _ _ rfl) (.int _ _) (by omega) rfl, hold_op (.atom _ _ rfl) (.int _ _) (o3 .i64) (.atom _ _ rfl), hold_op (.atom _ _ rfl) (.int _ _) o4 (.atom _ _ rfl), hold_op (.atom _ _ rfl) (.int _ _) (by have := (o5 .i64); rw [k5] at this; exact this) (.int _ _), trivial⟩ Zw.i169 rfl rfl (rowsHold_cons (Elem.row v2 (VL.cons (.atom _ _ rfl) VL.nil)) rowsHold_nil) Zw.r169 rfl rfl (Zw.n118 r0 h1 b1 r1q0 )
  ·
    exact Zw.nx Zw.t170 [(.int .i64 (m1 : Int))] [] [(.slice a1 m1 c1)] (Zw.k0 _) ⟨hold_len (.atom _ _ rfl) (.atom _ _ rfl), hold_bool (.int _ _) (.atom _ _ rfl) (op_lss_f (Int.not_lt.1 q1)), trivial⟩ Zw.i170 rfl rfl rowsHold_nil Zw.r170 rfl rfl (Zw.n114 r0 h1 b1 r1q0 )
theorem Zw.n15 {W : World} {n0 : Int} {a1 : Option Addr} {m1 c1 : Nat} {f1q0 : Nat → Int} (r0 : R64 n0) (h1 : SlcOk W a1 m1 c1 1 (fun i => [.int .i64 (f1q0 i)])) (b1 : (m1 : Int) < 9223372036854775808) (r1q0 : ∀ i, R64 (f1q0 i)) : NdGood Tryz.prog Tryz.f6 8 Tryz.H0 W Zw.p0 Zw.d15 [(.slice a1 m1 c1)] := by
  have ⟨rl0, rh0⟩ := r0
  by_cases q1 : (1 : Int) < (m1 : Int)
  ·
    have l2 : 1 < m1 := by omega
    obtain ⟨p2, v2⟩ := h1.elem l2
    have w2q0 := r1q0 1
    obtain ⟨d3, ⟨y3, e3, z3, u3, w3⟩, g3, o3⟩ := ex_rem (f1q0 1) (5 : Int) (by omega) (by omega)
    obtain ⟨d4, e4, g4, o4⟩ := ex_add d3 (5 : Int)
    obtain ⟨d5, ⟨y5, e5, z5, u5, w5⟩, g5, o5⟩ := ex_rem d4 (5 : Int) (by omega) (by omega)
    rcases (show d5 = 0 ∨ d5 = 1 ∨ d5 = 2 ∨ d5 = 3 ∨ d5 = 4 by omega) with k5 | k5 | k5 | k5 | k5
    ·
      exact Zw.nx Zw.t62 [(.int .i64 (f1q0 1)), (.int .i64 (m1 : Int)), (.int .i64 d3), (.int .i64 d4)] [p2] [(.slice a1 m1 c1)] (Zw.k0 _) ⟨hold_len (.atom _ _ rfl) (.atom _ _ rfl), hold_bool (.int _ _) (.atom _ _ rfl) (op_lss_t q1), hold_idx v2 l2 (.atom _ _ rfl) (.int _ _) (by omega) rfl, hold_op (.atom _ _ rfl) (.int _ _) (o3 .i64) (.atom _ _ rfl), hold_op (.atom _ _ rfl) (.int _ _) o4 (.atom _ _ rfl), hold_op (.atom _ _ rfl) (.int _ _) (by have := (o5 .i64); rw [k5] at this; exact this) (.int _ _), trivial⟩ Zw.i62 rfl rfl (rowsHold_cons (Elem.row v2 (VL.cons (.atom _ _ rfl) VL.nil)) rowsHold_nil) Zw.r62 rfl rfl (Zw.n49 r0 h1 b1 r1q0 )
    ·
      exact Zw.nx Zw.t63 [(.int .i64 (f1q0 1)), (.int .i64 (m1 : Int)), (.int .i64 d3), (.int .i64 d4)] [p2] [(.slice a1 m1 c1)] (Zw.k0 _) ⟨hold_len (.atom _ _ rfl) (.atom _ _ rfl), hold_bool (.int _ _) (.atom _ _ rfl) (op_lss_t q1), hold_idx v2 l2 (.atom _ _ rfl) (.int _ _) (by omega) rfl, hold_op (.atom _ _ rfl) (.int _ _) (o3 .i64) (.atom _ _ rfl), hold_op (.atom _ _ rfl) (.int _ _) o4 (.atom _ _ rfl), hold_op (.atom _ _ rfl) (.int _ _) (by have := (o5 .i64); rw [k5] at this; exact this) (.int _ _), trivial⟩ Zw.i63 rfl rfl (rowsHold_cons (Elem.row v2 (VL.cons (.atom _ _ rfl) VL.nil)) rowsHold_nil) Zw.r63 rfl rfl (Zw.n50 r0 h1 b1 r1q0 )
    ·
      exact Zw.nx Zw.t64 [(.int .i64 (f1q0 1)), (.int .i64 (m1 : Int)), (.int .i64 d3), (.int .i64 d4)] [p2] [(.slice a1 m1 c1)] (Zw.k0 _) ⟨hold_len (.atom _ _ rfl) (.atom _ _ rfl), hold_bool (.int _ _) (.atom _ _ rfl) (op_lss_t q1), hold_idx v2 l2 (.atom _ _ rfl) (.int _ _) (by omega) rfl, hold_op (.atom _ _ rfl) (.int _ _) (o3 .i64) (.atom _ _ rfl), hold_op (.atom _ _ rfl) (.int _ _) o4 (.atom _ _ rfl), hold_op (.atom _ _ rfl) (.int _ _) (by have := (o5 .i64); rw [k5] at this; exact this) (.int _ _), trivial⟩ Zw.i64 rfl rfl (rowsHold_cons (Elem.row v2 (VL.cons (.atom _ _ rfl) VL.nil)) rowsHold_nil) Zw.r64 rfl rfl (Zw.n51 r0 h1 b1 r1q0 )
    ·
      exact Zw.nx Zw.t65 [(.int .i64 (f1q0 1)), (.int .i64 (m1 : Int)), (.int .i64 d3), (.int .i64 d4)] [p2] [(.slice a1 m1 c1)] (Zw.k0 _) ⟨hold_len (.atom _ _ rfl) (.atom _ _ rfl), hold_bool (.int _ _) (.atom _ _ rfl) (op_lss_t q1), hold_idx v2 l2 (.atom _ _ rfl) (.int _ _) (by omega) rfl, hold_op (.atom _ _ rfl) (.int _ _) (o3 .i64) (.atom _ _ rfl), hold_op (.atom _ _ rfl) (.int _ _) o4 (.atom _ _ rfl), hold_op (.atom _ _ rfl) (.int _ _) (by have := (o5 .i64); rw [k5] at this; exact this) (.int _ _), trivial⟩ Zw.i65 rfl rfl (rowsHold_cons (Elem.row v2 (VL.cons (.atom _ _ rfl) VL.nil)) rowsHold_nil) Zw.r65 rfl rfl (Zw.n52 r0 h1 b1 r1q0 )
    ·
      exact Zw.nx Zw.t66 [(.int .i64 (f1q0 1)), (.int .i64 (m1 : Int)), (.int .i64 d3), (.int .i64 d4)] [p2] [(.slice a1 m1 c1)] (Zw.k0 _) ⟨hold_len (.atom _ _ rfl) (.atom _ _ rfl), hold_bool (.int _ _) (.atom _ _ rfl) (op_lss_t q1), hold_idx v2 l2 (.atom _ _ rfl) (.int _ _) (by omega) rfl, hold_op (.atom _ _ rfl) (.int _ _) (o3 .i64) (.atom _ _ rfl), hold_op (.atom _ _ rfl) (.int _ _) o4 (.atom _ _ rfl), hold_op (.atom _ _ rfl) (.int _ _) (by have := (o5 .i64); rw [k5] at this; exact this) (.int _ _), trivial⟩ Zw.i66 rfl rfl (rowsHold_cons (Elem.row v2 (VL.cons (.atom _ _ rfl) VL.nil)) rowsHold_nil) Zw.r66 rfl rfl (Zw.n53 r0 h1 b1 r1q0 )
  ·
    exact Zw.nx Zw.t67 [(.int .i64 (m1 : Int))] [] [(.slice a1 m1 c1)] (Zw.k0 _) ⟨hold_len (.atom _ _ rfl) (.atom _ _ rfl), hold_bool (.int _ _) (.atom _ _ rfl) (op_lss_f (Int.not_lt.1 q1)), trivial⟩ Zw.i67 rfl rfl rowsHold_nil Zw.r67 rfl rfl (Zw.n49 r0 h1 b1 r1q0 )
theorem Zw.n119 {W : World} {n0 : Int} {a1 : Option Addr} {m1 c1 : Nat} {f1q0 : Nat → Int} (r0 : R64 n0) (h1 : SlcOk W a1 m1 c1 1 (fun i => [.int .i64 (f1q0 i)])) (b1 : (m1 : Int) < 9223372036854775808) (r1q0 : ∀ i, R64 (f1q0 i)) : NdGood Tryz.prog Tryz.f6 8 Tryz.H0 W Zw.p0 Zw.d119 [(.slice a1 m1 c1)] := by
  have ⟨rl0, rh0⟩ := r0
  exact Zw.fx Zw.t311 [] [] (Zw.k0 _) trivial Zw.i311 rfl rfl rowsHold_nil Zw.r311
theorem Zw.n120 {W : World} {n0 : Int} {a1 : Option Addr} {m1 c1 : Nat} {f1q0 : Nat → Int} (r0 : R64 n0) (h1 : SlcOk W a1 m1 c1 1 (fun i => [.int .i64 (f1q0 i)])) (b1 : (m1 : Int) < 9223372036854775808) (r1q0 : ∀ i, R64 (f1q0 i)) : NdGood Tryz.prog Tryz.f6 8 Tryz.H0 W Zw.p0 Zw.d120 [(.slice a1 m1 c1)] := by
  have ⟨rl0, rh0⟩ := r0
  exact Zw.fx Zw.t312 [] [] (Zw.k0 _) trivial Zw.i312 rfl rfl rowsHold_nil Zw.r312
theorem Zw.n121 {W : World} {n0 : Int} {a1 : Option Addr} {m1 c1 : Nat} {f1q0 : Nat → Int} (r0 : R64 n0) (h1 : SlcOk W a1 m1 c1 1 (fun i => [.int .i64 (f1q0 i)])) (b1 : (m1 : Int) < 9223372036854775808) (r1q0 : ∀ i, R64 (f1q0 i)) : NdGood Tryz.prog Tryz.f6 8 Tryz.H0 W Zw.p0 Zw.d121 [(.slice a1 m1 c1)] := by
  have ⟨rl0, rh0⟩ := r0
  exact Zw.fx Zw.t313 [] [] (Zw.k0 _) trivial Zw.i313 rfl rfl rowsHold_nil Zw.r313
theorem Zw.n122 {W : World} {n0 : Int} {a1 : Option Addr} {m1 c1 : Nat} {f1q0 : Nat → Int} (r0 : R64 n0) (h1 : SlcOk W a1 m1 c1 1 (fun i => [.int .i64 (f1q0 i)])) (b1 : (m1 : Int) < 9223372036854775808) (r1q0 : ∀ i, R64 (f1q0 i)) : NdGood Tryz.prog Tryz.f6 8 Tryz.H0 W Zw.p0 Zw.d122 [(.slice a1 m1 c1)] := by
  have ⟨rl0, rh0⟩ := r0
  exact Zw.fx Zw.t314 [] [] (Zw.k0 _) trivial Zw.i314 rfl rfl rowsHold_nil Zw.r314
theorem Zw.n123 {W : World} {n0 : Int} {a1 : Option Addr} {m1 c1 : Nat} {f1q0 : Nat → Int} (r0 : R64 n0) (h1 : SlcOk W a1 m1 c1 1 (fun i => [.int .i64 (f1q0 i)])) (b1 : (m1 : Int) < 9223372036854775808) (r1q0 : ∀ i, R64 (f1q0 i)) : NdGood Tryz.prog Tryz.f6 8 Tryz.H0 W Zw.p0 Zw.d123 [(.slice a1 m1 c1)] := by
  have ⟨rl0, rh0⟩ := r0
  exact Zw.fx Zw.t315 [] [] (Zw.k0 _) trivial Zw.i315 rfl rfl rowsHold_nil Zw.r315
theorem Zw.n54 {W : World} {n0 : Int} {a1 : Option Addr} {m1 c1 : Nat} {f1q0 : Nat → Int} (r0 : R64 n0) (h1 : SlcOk W a1 m1 c1 1 (fun i => [.int .i64 (f1q0 i)])) (b1 : (m1 : Int) < 9223372036854775808) (r1q0 : ∀ i, R64 (f1q0 i)) : NdGood Tryz.prog Tryz.f6 8 Tryz.H0 W Zw.p0 Zw.d54 [(.slice a1 m1 c1)] := by
  have ⟨rl0, rh0⟩ := r0
  by_cases q1 : (2 : Int) < (m1 : Int)
  ·
    have l2 : 2 < m1 := by omega
    obtain ⟨p2, v2⟩ := h1.elem l2
    have w2q0 := r1q0 2
    obtain ⟨d3, ⟨y3, e3, z3, u3, w3⟩, g3, o3⟩ := ex_rem (f1q0 2) (5 : Int) (by omega) (by omega)
    obtain ⟨d4, e4, g4, o4⟩ := ex_add d3 (5 : Int)
    obtain ⟨d5, ⟨y5, e5, z5, u5, w5⟩, g5, o5⟩ := ex_rem d4 (5 : Int) (by omega) (by omega)
    rcases (show d5 = 0 ∨ d5 = 1 ∨ d5 = 2 ∨ d5 = 3 ∨ d5 = 4 by omega) with k5 | k5 | k5 | k5 | k5
    ·
      exact Zw.nx Zw.t171 [(.int .i64 (f1q0 2)), (.int .i64 (m1 : Int)), (.int .i64 d3), (.int .i64 d4)] [p2] [(.slice a1 m1 c1)] (Zw.k0 _) ⟨hold_len (.atom _ _ rfl) (.atom _ _ rfl), hold_bool (.int _ _) (.atom _ _ rfl) (op_lss_t q1), hold_idx v2 l2 (.atom _ _ rfl) (.int _ _) (by omega) rfl, hold_op (.atom _ _ rfl) (.int _ _) (o3 .i64) (.atom _ _ rfl), hold_op (.atom _ _ rfl) (.int _ _) o4 (.atom _ _ rfl), hold_op (.atom _ _ rfl) (.int _ _) (by have := (o5 .i64); rw [k5] at this; exact this) (.int _ _), trivial⟩ Zw.i171 rfl rfl (rowsHold_cons (Elem.row v2 (VL.cons (.atom _ _ rfl) VL.nil)) rowsHold_nil) Zw.r171 rfl rfl (Zw.n119 r0 h1 b1 r1q0 )
    ·
      exact Zw.nx Zw.t172 [(.int .i64 (f1q0 2)), (.int .i64 (m1 : Int)), (.int .i64 d3), (.int .i64 d4)] [p2] [(.slice a1 m1 c1)] (Zw.k0 _) ⟨hold_len (.atom _ _ rfl) (.atom _ _ rfl), hold_bool (.int _ _) (.atom _ _ rfl) (op_lss_t q1), hold_idx v2 l2 (.atom _ _ rfl) (.int _ _) (by omega) rfl, hold_op (.atom _ _ rfl) (.int _ _) (o3 .i64) (.atom _ _ rfl), hold_op (.atom _ _ rfl) (.int _ _) o4 (.atom _ _ rfl), hold_op (.atom _ _ rfl) (.int _ _) (by have := (o5 .i64); rw [k5] at this; exact this) (.int _ _), trivial⟩ Zw.i172 rfl rfl (rowsHold_cons (Elem.row v2 (VL.cons (.atom _ _ rfl) VL.nil)) rowsHold_nil) Zw.r172 rfl rfl (Zw.n120 r0 h1 b1 r1q0 )
    ·
      exact Zw.nx Zw.t173 [(.int .i64 (f1q0 2)), (.int .i64 (m1 : Int)), (.int .i64 d3), (.int .i64 d4)] [p2] [(.slice a1 m1 c1)] (Zw.k0 _) ⟨hold_len (.atom _ _ rfl) (.atom _ _ rfl), hold_bool (.int _ _) (.atom _ _ rfl) (op_lss_t q1), hold_idx v2 l2 (.atom _ _ rfl) (.int _ _) (by omega) rfl, hold_op (.atom _ _ rfl) (.int _ _) (o3 .i64) (.atom _ _ rfl), hold_op (.atom _ _ rfl) (.int _ _) o4 (.atom _ _ rfl), hold_op (.atom _ _ rfl) (.int _ _) (by have := (o5 .i64); rw [k5] at this; exact this) (.int _ _), trivial⟩ Zw.i173 rfl rfl (rowsHold_cons (Elem.row v2 (VL.cons (.atom _ _ rfl) VL.nil)) rowsHold_nil) Zw.r173 rfl rfl (Zw.n121 r0 h1 b1 r1q0 )
    ·
      exact Zw.nx Zw.t174 [(.int .i64 (f1q0 2)), (.int .i64 (m1 : Int)), (.int .i64 d3), (.int .i64 d4)] [p2] [(.slice a1 m1 c1)] (Zw.k0 _) ⟨hold_len (.atom _ _ rfl) (.atom _ _ rfl), hold_bool (.int _ _) (.atom _ _ rfl) (op_lss_t q1), hold_idx v2 l2 (.atom _ _ rfl) (.int _ _) (by omega) rfl, hold_op (.atom _ _ rfl) (.int _ _) (o3 .i64) (.atom _ _ rfl), hold_op (.atom _ _ rfl) (.int _ _) o4 (.atom _ _ rfl), hold_op (.atom _ _ rfl) (.int _ _) (by have := (o5 .i64); rw [k5] at this; exact this) (.int _ _), trivial⟩ Zw.i174 rfl rfl (rowsHold_cons (Elem.row v2 (VL.cons (.atom _ _ rfl) VL.nil)) rowsHold_nil) Zw.r174 rfl rfl (Zw.n122 r0 h1 b1 r1q0 )
    ·
      exact Zw.nx Zw.t175 [(.int .i64 (f1q0 2)), (.int .i64 (m1 : Int)), (.int .i64 d3), (.int .i64 d4)] [p2] [(.slice a1 m1 c1)] (Zw.k0 _) ⟨hold_len (.atom _ _ rfl) (.atom _ _ rfl), hold_bool (.int _ _) (.atom _ _ rfl) (op_lss_t q1), hold_idx v2 l2 (.atom _ _ rfl) (.int _ _) (by omega) rfl, hold_op (.atom _ _ rfl) (.int _ _) (o3 .i64) (.atom _ _ rfl), hold_op (.atom _ _ rfl) (.int _ _) o4 (.atom _ _ rfl), hold_op (.atom _ _ rfl) (.int _ _) (by have := (o5 .i64); rw [k5] at this; exact this) (.int _ _), trivial⟩ Zw.i175 rfl rfl (rowsHold_cons (Elem.row v2 (VL.cons (.atom _ _ rfl) VL.nil)) rowsHold_nil) Zw.r175 rfl rfl (Zw.n123 r0 h1 b1 r1q0 )
  ·
    exact Zw.nx Zw.t176 [(.int .i64 (m1 : Int))] [] [(.slice a1 m1 c1)] (Zw.k0 _) ⟨hold_len (.atom _ _ rfl) (.atom _ _ rfl), hold_bool (.int _ _) (.atom _ _ rfl) (op_lss_f (Int.not_lt.1 q1)), trivial⟩ Zw.i176 rfl rfl rowsHold_nil Zw.r176 rfl rfl (Zw.n119 r0 h1 b1 r1q0 )
theorem Zw.n128 {W : World} {n0 : Int} {a1 : Option Addr} {m1 c1 : Nat} {f1q0 : Nat → Int} (r0 : R64 n0) (h1 : SlcOk W a1 m1 c1 1 (fun i => [.int .i64 (f1q0 i)])) (b1 : (m1 : Int) < 9223372036854775808) (r1q0 : ∀ i, R64 (f1q0 i)) : NdGood Tryz.prog Tryz.f6 8 Tryz.H0 W Zw.p0 Zw.d128 [(.slice a1 m1 c1)] := by
  have ⟨rl0, rh0⟩ := r0
  exact Zw.fx Zw.t320 [] [] (Zw.k0 _) trivial Zw.i320 rfl rfl rowsHold_nil Zw.r320
theorem Zw.n124 {W : World} {n0 : Int} {a1 : Option Addr} {m1 c1 : Nat} {f1q0 : Nat → Int} (r0 : R64 n0) (h1 : SlcOk W a1 m1 c1 1 (fun i => [.int .i64 (f1q0 i)])) (b1 : (m1 : Int) < 9223372036854775808) (r1q0 : ∀ i, R64 (f1q0 i)) : NdGood Tryz.prog Tryz.f6 8 Tryz.H0 W Zw.p0 Zw.d124 [(.slice a1 m1 c1)] := by
  have ⟨rl0, rh0⟩ := r0
  exact Zw.fx Zw.t316 [] [] (Zw.k0 _) trivial Zw.i316 rfl rfl rowsHold_nil Zw.r316
theorem Zw.n125 {W : World} {n0 : Int} {a1 : Option Addr} {m1 c1 : Nat} {f1q0 : Nat → Int} (r0 : R64 n0) (h1 : SlcOk W a1 m1 c1 1 (fun i => [.int .i64 (f1q0 i)])) (b1 : (m1 : Int) < 9223372036854775808) (r1q0 : ∀ i, R64 (f1q0 i)) : NdGood Tryz.prog Tryz.f6 8 Tryz.H0 W Zw.p0 Zw.d125 [(.slice a1 m1 c1)] := by
  have ⟨rl0, rh0⟩ := r0
  exact Zw.fx Zw.t317 [] [] (Zw.k0 _) trivial Zw.i317 rfl rfl rowsHold_nil Zw.r317
theorem Zw.n126 {W : World} {n0 : Int} {a1 : Option Addr} {m1 c1 : Nat} {f1q0 : Nat → Int} (r0 : R64 n0) (h1 : SlcOk W a1 m1 c1 1 (fun i => [.int .i64 (f1q0 i)])) (b1 : (m1 : Int) < 9223372036854775808) (r1q0 : ∀ i, R64 (f1q0 i)) : NdGood Tryz.prog Tryz.f6 8 Tryz.H0 W Zw.p0 Zw.d126 [(.slice a1 m1 c1)] := by
  have ⟨rl0, rh0⟩ := r0
  exact Zw.fx Zw.t318 [] [] (Zw.k0 _) trivial Zw.i318 rfl rfl rowsHold_nil Zw.r318
theorem Zw.n127 {W : World} {n0 : Int} {a1 : Option Addr} {m1 c1 : Nat} {f1q0 : Nat → Int} (r0 : R64 n0) (h1 : SlcOk W a1 m1 c1 1 (fun i => [.int .i64 (f1q0 i)])) (b1 : (m1 : Int) < 9223372036854775808) (r1q0 : ∀ i, R64 (f1q0 i)) : NdGood Tryz.prog Tryz.f6 8 Tryz.H0 W Zw.p0 Zw.d127 [(.slice a1 m1 c1)] := by
  have ⟨rl0, rh0⟩ := r0
  exact Zw.fx Zw.t319 [] [] (Zw.k0 _) trivial Zw.i319 rfl rfl rowsHold_nil Zw.r319
theorem Zw.n55 {W : World} {n0 : Int} {a1 : Option Addr} {m1 c1 : Nat} {f1q0 : Nat → Int} (r0 : R64 n0) (h1 : SlcOk W a1 m1 c1 1 (fun i => [.int .i64 (f1q0 i)])) (b1 : (m1 : Int) < 9223372036854775808) (r1q0 : ∀ i, R64 (f1q0 i)) : NdGood Tryz.prog Tryz.f6 8 Tryz.H0 W Zw.p0 Zw.d55 [(.slice a1 m1 c1)] := by
  have ⟨rl0, rh0⟩ := r0
  by_cases q1 : (2 : Int) < (m1 : Int)
  ·
    have l2 : 2 < m1 := by omega
    obtain ⟨p2, v2⟩ := h1.elem l2
    have w2q0 := r1q0 2
    obtain ⟨d3, ⟨y3, e3, z3, u3, w3⟩, g3, o3⟩ := ex_rem (f1q0 2) (5 : Int) (by omega) (by omega)
    obtain ⟨d4, e4, g4, o4⟩ := ex_add d3 (5 : Int)
    obtain ⟨d5, ⟨y5, e5, z5, u5, w5⟩, g5, o5⟩ := ex_rem d4 (5 : Int) (by omega) (by omega)
    rcases (show d5 = 0 ∨ d5 = 1 ∨ d5 = 2 ∨ d5 = 3 ∨ d5 = 4 by omega) with k5 | k5 | k5 | k5 | k5
    ·
      exact Zw.nx Zw.t177 [(.int .i64 (f1q0 2)), (.int .i64 (m1 : Int)), (.int .i64 d3), (.int .i64 d4)] [p2] [(.slice a1 m1 c1)] (Zw.k0 _) ⟨hold_len (.atom _ _ rfl) (.atom _ _ rfl), hold_bool (.int _ _) (.atom _ _ rfl) (op_lss_t q1), hold_idx v2 l2 (.atom _ _ rfl) (.int _ _) (by omega) rfl, hold_op (.atom _ _ rfl) (.int _ _) (o3 .i64) (.atom _ _ rfl), hold_op (.atom _ _ rfl) (.int _ _) o4 (.atom _ _ rfl), hold_op (.atom _ _ rfl) (.int _ _) (by have := (o5 .i64); rw [k5] at this; exact this) (.int _ _), trivial⟩ Zw.i177 rfl rfl (rowsHold_cons (Elem.row v2 (VL.cons (.atom _ _ rfl) VL.nil)) rowsHold_nil) Zw.r177 rfl rfl (Zw.n124 r0 h1 b1 r1q0 )
    ·
      exact Zw.nx Zw.t178 [(.int .i64 (f1q0 2)), (.int .i64 (m1 : Int)), (.int .i64 d3), (.int .i64 d4)] [p2] [(.slice a1 m1 c1)] (Zw.k0 _) ⟨hold_len (.atom _ _ rfl) (.atom _ _ rfl), hold_bool (.int _ _) (.atom _ _ rfl) (op_lss_t q1), hold_idx v2 l2 (.atom _ _ rfl) (.int _ _) (by omega) rfl, hold_op (.atom _ _ rfl) (.int _ _) (o3 .i64) (.atom _ _ rfl), hold_op (.atom _ _ rfl) (.int _ _) o4 (.atom _ _ rfl), hold_op (.atom _ _ rfl) (.int _ _) (by have := (o5 .i64); rw [k5] at this; exact this) (.int _ _), trivial⟩ Zw.i178 rfl rfl (rowsHold_cons (Elem.row v2 (VL.cons (.atom _ _ rfl) VL.nil)) rowsHold_nil) Zw.r178 rfl rfl (Zw.n125 r0 h1 b1 r1q0 )
    ·
      exact Zw.nx Zw.t179 [(.int .i64 (f1q0 2)), (.int .i64 (m1 : Int)), (.int .i64 d3), (.int .i64 d4)] [p2] [(.slice a1 m1 c1)] (Zw.k0 _) ⟨hold_len (.atom _ _ rfl) (.atom _ _ rfl), hold_bool (.int _ _) (.atom _ _ rfl) (op_lss_t q1), hold_idx v2 l2 (.atom _ _ rfl) (.int _ _) (by omega) rfl, hold_op (.atom _ _ rfl) (.int _ _) (o3 .i64) (.atom _ _ rfl), hold_op (.atom _ _ rfl) (.int _ _) o4 (.atom _ _ rfl), hold_op (.atom _ _ rfl) (.int _ _) (by have := (o5 .i64); rw [k5] at this; exact this) (.int _ _), trivial⟩ Zw.i179 rfl rfl (rowsHold_cons (Elem.row v2 (VL.cons (.atom _ _ rfl) VL.nil)) rowsHold_nil) Zw.r179 rfl rfl (Zw.n126 r0 h1 b1 r1q0 )
    ·
      exact Zw.nx Zw.t180 [(.int .i64 (f1q0 2)), (.int .i64 (m1 : Int)), (.int .i64 d3), (.int .i64 d4)] [p2] [(.slice a1 m1 c1)] (Zw.k0 _) ⟨hold_len (.atom _ _ rfl) (.atom _ _ rfl), hold_bool (.int _ _) (.atom _ _ rfl) (op_lss_t q1), hold_idx v2 l2 (.atom _ _ rfl) (.int _ _) (by omega) rfl, hold_op (.atom _ _ rfl) (.int _ _) (o3 .i64) (.atom _ _ rfl), hold_op (.atom _ _ rfl) (.int _ _) o4 (.atom _ _ rfl), hold_op (.atom _ _ rfl) (.int _ _) (by have := (o5 .i64); rw [k5] at this; exact this) (.int _ _), trivial⟩ Zw.i180 rfl rfl (rowsHold_cons (Elem.row v2 (VL.cons (.atom _ _ rfl) VL.nil)) rowsHold_nil) Zw.r180 rfl rfl (Zw.n127 r0 h1 b1 r1q0 )
    ·
      exact Zw.nx Zw.t181 [(.int .i64 (f1q0 2)), (.int .i64 (m1 : Int)), (.int .i64 d3), (.int .i64 d4)] [p2] [(.slice a1 m1 c1)] (Zw.k0 _) ⟨hold_len (.atom _ _ rfl) (.atom _ _ rfl), hold_bool (.int _ _) (.atom _ _ rfl) (op_lss_t q1), hold_idx v2 l2 (.atom _ _ rfl) (.int _ _) (by omega) rfl, hold_op (.atom _ _ rfl) (.int _ _) (o3 .i64) (.atom _ _ rfl), hold_op (.atom _ _ rfl) (.int _ _) o4 (.atom _ _ rfl), hold_op (.atom _ _ rfl) (.int _ _) (by have := (o5 .i64); rw [k5] at this; exact this) (.int _ _), trivial⟩ Zw.i181 rfl rfl (rowsHold_cons (Elem.row v2 (VL.cons (.atom _ _ rfl) VL.nil)) rowsHold_nil) Zw.r181 rfl rfl (Zw.n128 r0 h1 b1 r1q0 )
  ·
    exact Zw.nx Zw.t182 [(.int .i64 (m1 : Int))] [] [(.slice a1 m1 c1)] (Zw.k0 _) ⟨hold_len (.atom _ _ rfl) (.atom _ _ rfl), hold_bool (.int _ _) (.atom _ _ rfl) (op_lss_f (Int.not_lt.1 q1)), trivial⟩ Zw.i182 rfl rfl rowsHold_nil Zw.r182 rfl rfl (Zw.n124 r0 h1 b1 r1q0 )
theorem Zw.n129 {W : World} {n0 : Int} {a1 : Option Addr} {m1 c1 : Nat} {f1q0 : Nat → Int} (r0 : R64 n0) (h1 : SlcOk W a1 m1 c1 1 (fun i => [.int .i64 (f1q0 i)])) (b1 : (m1 : Int) < 9223372036854775808) (r1q0 : ∀ i, R64 (f1q0 i)) : NdGood Tryz.prog Tryz.f6 8 Tryz.H0 W Zw.p0 Zw.d129 [(.slice a1 m1 c1)] := by
  have ⟨rl0, rh0⟩ := r0
  exact Zw.fx Zw.t321 [] [] (Zw.k0 _) trivial Zw.i321 rfl rfl rowsHold_nil Zw.r321
theorem Zw.n130 {W : World} {n0 : Int} {a1 : Option Addr} {m1 c1 : Nat} {f1q0 : Nat → Int} (r0 : R64 n0) (h1 : SlcOk W a1 m1 c1 1 (fun i => [.int .i64 (f1q0 i)])) (b1 : (m1 : Int) < 9223372036854775808) (r1q0 : ∀ i, R64 (f1q0 i)) : NdGood Tryz.prog Tryz.f6 8 Tryz.H0 W Zw.p0 Zw.d130 [(.slice a1 m1 c1)] := by
  have ⟨rl0, rh0⟩ := r0
  exact Zw.fx Zw.t322 [] [] (Zw.k0 _) trivial Zw.i322 rfl rfl rowsHold_nil Zw.r322
theorem Zw.n131 {W : World} {n0 : Int} {a1 : Option Addr} {m1 c1 : Nat} {f1q0 : Nat → Int} (r0 : R64 n0) (h1 : SlcOk W a1 m1 c1 1 (fun i => [.int .i64 (f1q0 i)])) (b1 : (m1 : Int) < 9223372036854775808) (r1q0 : ∀ i, R64 (f1q0 i)) : NdGood Tryz.prog Tryz.f6 8 Tryz.H0 W Zw.p0 Zw.d131 [(.slice a1 m1 c1)] := by
  have ⟨rl0, rh0⟩ := r0
  exact Zw.fx Zw.t323 [] [] (Zw.k0 _) trivial Zw.i323 rfl rfl rowsHold_nil Zw.r323
theorem Zw.n132 {W : World} {n0 : Int} {a1 : Option Addr} {m1 c1 : Nat} {f1q0 : Nat → Int} (r0 : R64 n0) (h1 : SlcOk W a1 m1 c1 1 (fun i => [.int .i64 (f1q0 i)])) (b1 : (m1 : Int) < 9223372036854775808) (r1q0 : ∀ i, R64 (f1q0 i)) : NdGood Tryz.prog Tryz.f6 8 Tryz.H0 W Zw.p0 Zw.d132 [(.slice a1 m1 c1)] := by
  have ⟨rl0, rh0⟩ := r0
  exact Zw.fx Zw.t324 [] [] (Zw.k0 _) trivial Zw.i324 rfl rfl rowsHold_nil Zw.r324
theorem Zw.n133 {W : World} {n0 : Int} {a1 : Option Addr} {m1 c1 : Nat} {f1q0 : Nat → Int} (r0 : R64 n0) (h1 : SlcOk W a1 m1 c1 1 (fun i => [.int .i64 (f1q0 i)])) (b1 : (m1 : Int) < 9223372036854775808) (r1q0 : ∀ i, R64 (f1q0 i)) : NdGood Tryz.prog Tryz.f6 8 Tryz.H0 W Zw.p0 Zw.d133 [(.slice a1 m1 c1)] := by
  have ⟨rl0, rh0⟩ := r0
  exact Zw.fx Zw.t325 [] [] (Zw.k0 _) trivial Zw.i325 rfl rfl rowsHold_nil Zw.r325
theorem Zw.n56 {W : World} {n0 : Int} {a1 : Option Addr} {m1 c1 : Nat} {f1q0 : Nat → Int} (r0 : R64 n0) (h1 : SlcOk W a1 m1 c1 1 (fun i => [.int .i64 (f1q0 i)])) (b1 : (m1 : Int) < 9223372036854775808) (r1q0 : ∀ i, R64 (f1q0 i)) : NdGood Tryz.prog Tryz.f6 8 Tryz.H0 W Zw.p0 Zw.d56 [(.slice a1 m1 c1)] := by
  have ⟨rl0, rh0⟩ := r0
  by_cases q1 : (2 : Int) < (m1 : Int)
  ·
    have l2 : 2 < m1 := by omega
    obtain ⟨p2, v2⟩ := h1.elem l2
    have w2q0 := r1q0 2
    obtain ⟨d3, ⟨y3, e3, z3, u3, w3⟩, g3, o3⟩ := ex_rem (f1q0 2) (5 : Int) (by omega) (by omega)
    obtain ⟨d4, e4, g4, o4⟩ := ex_add d3 (5 : Int)
    obtain ⟨d5, ⟨y5, e5, z5, u5, w5⟩, g5, o5⟩ := ex_rem d4 (5 : Int) (by omega) (by omega)
    rcases (show d5 = 0 ∨ d5 = 1 ∨ d5 = 2 ∨ d5 = 3 ∨ d5 = 4 by omega) with k5 | k5 | k5 | k5 | k5
    ·
      exact Zw.nx Zw.t183 [(.int .i64 (f1q0 2)), (.int .i64 (m1 : Int)), (.int .i64 d3), (.int .i64 d4)] [p2] [(.slice a1 m1 c1)] (Zw.k0 _) ⟨hold_len (.atom _ _ rfl) (.atom _ _ rfl), hold_bool (.int _ _) (.atom _ _ rfl) (op_lss_t q1), hold_idx v2 l2 (.atom _ _ rfl) (.int _ _) (by omega) rfl, hold_op (.atom _ _ rfl) (.int _ _) (o3 .i64) (.atom _ _ rfl), hold_op (.atom _ _ rfl) (.int _ _) o4 (.atom _ _ rfl), hold_op (.atom _ _ rfl) (.int _ _) (by have := (o5 .i64); rw [k5] at this; exact this) (.int _ _), trivial⟩ Zw.i183 rfl rfl (rowsHold_cons (Elem.row v2 (VL.cons (.atom _ _ rfl) VL.nil)) rowsHold_nil) Zw.r183 rfl rfl (Zw.n129 r0 h1 b1 r1q0 )
    ·
      exact Zw.nx Zw.t184 [(.int .i64 (f1q0 2)), (.int .i64 (m1 : Int)), (.int .i64 d3), (.int .i64 d4)] [p2] [(.slice a1 m1 c1)] (Zw.k0 _) ⟨hold_len (.atom _ _ rfl) (.atom _ _ rfl), hold_bool (.int _ _) (.atom _ _ rfl) (op_lss_t q1), hold_idx v2 l2 (.atom _ _ rfl) (.int _ _) (by omega) rfl, hold_op (.atom _ _ rfl) (.int _ _) (o3 .i64) (.atom _ _ rfl), hold_op (.atom _ _ rfl) (.int _ _) o4 (.atom _ _ rfl), hold_op (.atom _ _ rfl) (.int _ _) (by have := (o5 .i64); rw [k5] at this; exact this) (.int _ _), trivial⟩ Zw.i184 rfl rfl (rowsHold_cons (Elem.row v2 (VL.cons (.atom _ _ rfl) VL.nil)) rowsHold_nil) Zw.r184 rfl rfl (Zw.n130 r0 h1 b1 r1q0 )
    ·
      exact Zw.nx Zw.t185 [(.int .i64 (f1q0 2)), (.int .i64 (m1 : Int)), (.int .i64 d3), (.int .i64 d4)] [p2] [(.slice a1 m1 c1)] (Zw.k0 _) ⟨hold_len (.atom _ _ rfl) (.atom _ _ rfl), hold_bool (.int _ _) (.atom _ _ rfl) (op_lss_t q1), hold_idx v2 l2 (.atom _ _ rfl) (.int _ _) (by omega) rfl, hold_op (.atom _ _ rfl) (.int _ _) (o3 .i64) (.atom _ _ rfl), hold_op (.atom _ _ rfl) (.int _ _) o4 (.atom _ _ rfl), hold_op (.atom _ _ rfl) (.int _ _) (by have := (o5 .i64); rw [k5] at this; exact this) (.int _ _), trivial⟩ Zw.i185 rfl rfl (rowsHold_cons (Elem.row v2 (VL.cons (.atom _ _ rfl) VL.nil)) rowsHold_nil) Zw.r185 rfl rfl (Zw.n131 r0 h1 b1 r1q0 )
    ·
      exact Zw.nx Zw.t186 [(.int .i64 (f1q0 2)), (.int .i64 (m1 : Int)), (.int .i64 d3), (.int .i64 d4)] [p2] [(.slice a1 m1 c1)] (Zw.k0 _) ⟨hold_len (.atom _ _ rfl) (.atom _ _ rfl), hold_bool (.int _ _) (.atom _ _ rfl) (op_lss_t q1), hold_idx v2 l2 (.atom _ _ rfl) (.int _ _) (by omega) rfl, hold_op (.atom _ _ rfl) (.int _ _) (o3 .i64) (.atom _ _ rfl), hold_op (.atom _ _ rfl) (.int _ _) o4 (.atom _ _ rfl), hold_op (.atom _ _ rfl) (.int _ _) (by have := (o5 .i64); rw [k5] at this; exact this) (.int _ _), trivial⟩ Zw.i186 rfl rfl (rowsHold_cons (Elem.row v2 (VL.cons (.atom _ _ rfl) VL.nil)) rowsHold_nil) Zw.r186 rfl rfl (Zw.n132 r0 h1 b1 r1q0 )
    ·
      exact Zw.nx Zw.t187 [(.int .i64 (f1q0 2)), (.int .i64 (m1 : Int)), (.int .i64 d3), (.int .i64 d4)] [p2] [(.slice a1 m1 c1)] (Zw.k0 _) ⟨hold_len (.atom _ _ rfl) (.atom _ _ rfl), hold_bool (.int _ _) (.atom _ _ rfl) (op_lss_t q1), hold_idx v2 l2 (.atom _ _ rfl) (.int _ _) (by omega) rfl, hold_op (.atom _ _ rfl) (.int _ _) (o3 .i64) (.atom _ _ rfl), hold_op (.atom _ _ rfl) (.int _ _) o4 (.atom _ _ rfl), hold_op (.atom _ _ rfl) (.int _ _) (by have := (o5 .i64); rw [k5] at this; exact this) (.int _ _), trivial⟩ Zw.i187 rfl rfl (rowsHold_cons (Elem.row v2 (VL.cons (.atom _ _ rfl) VL.nil)) rowsHold_nil) Zw.r187 rfl rfl (Zw.n133 r0 h1 b1 r1q0 )
  ·
    exact Zw.nx Zw.t188 [(.int .i64 (m1 : Int))] [] [(.slice a1 m1 c1)] (Zw.k0 _) ⟨hold_len (.atom _ _ rfl) (.atom _ _ rfl), hold_bool (.int _ _) (.atom _ _ rfl) (op_lss_f (Int.not_lt.1 q1)), trivial⟩ Zw.i188 rfl rfl rowsHold_nil Zw.r188 rfl rfl (Zw.n129 r0 h1 b1 r1q0 )
theorem Zw.n134 {W : World} {n0 : Int} {a1 : Option Addr} {m1 c1 : Nat} {f1q0 : Nat → Int} (r0 : R64 n0) (h1 : SlcOk W a1 m1 c1 1 (fun i => [.int .i64 (f1q0 i)])) (b1 : (m1 : Int) < 9223372036854775808) (r1q0 : ∀ i, R64 (f1q0 i)) : NdGood Tryz.prog Tryz.f6 8 Tryz.H0 W Zw.p0 Zw.d134 [(.slice a1 m1 c1)] := by
  have ⟨rl0, rh0⟩ := r0
  exact Zw.fx Zw.t326 [] [] (Zw.k0 _) trivial Zw.i326 rfl rfl rowsHold_nil Zw.r326
theorem Zw.n135 {W : World} {n0 : Int} {a1 : Option Addr} {m1 c1 : Nat} {f1q0 : Nat → Int} (r0 : R64 n0) (h1 : SlcOk W a1 m1 c1 1 (fun i => [.int .i64 (f1q0 i)])) (b1 : (m1 : Int) < 9223372036854775808) (r1q0 : ∀ i, R64 (f1q0 i)) : NdGood Tryz.prog Tryz.f6 8 Tryz.H0 W Zw.p0 Zw.d135 [(.slice a1 m1 c1)] := by
  have ⟨rl0, rh0⟩ := r0
  exact Zw.fx Zw.t327 [] [] (Zw.k0 _) trivial Zw.i327 rfl rfl rowsHold_nil Zw.r327
theorem Zw.n136 {W : World} {n0 : Int} {a1 : Option Addr} {m1 c1 : Nat} {f1q0 : Nat → Int} (r0 : R64 n0) (h1 : SlcOk W a1 m1 c1 1 (fun i => [.int .i64 (f1q0 i)])) (b1 : (m1 : Int) < 9223372036854775808) (r1q0 : ∀ i, R64 (f1q0 i)) : NdGood Tryz.prog Tryz.f6 8 Tryz.H0 W Zw.p0 Zw.d136 [(.slice a1 m1 c1)] := by
  have ⟨rl0, rh0⟩ := r0
  exact Zw.fx Zw.t328 [] [] (Zw.k0 _) trivial Zw.i328 rfl rfl rowsHold_nil Zw.r328
theorem Zw.n137 {W : World} {n0 : Int} {a1 : Option Addr} {m1 c1 : Nat} {f1q0 : Nat → Int} (r0 : R64 n0) (h1 : SlcOk W a1 m1 c1 1 (fun i => [.int .i64 (f1q0 i)])) (b1 : (m1 : Int) < 9223372036854775808) (r1q0 : ∀ i, R64 (f1q0 i)) : NdGood Tryz.prog Tryz.f6 8 Tryz.H0 W Zw.p0 Zw.d137 [(.slice a1 m1 c1)] := by
  have ⟨rl0, rh0⟩ := r0
  exact Zw.fx Zw.t329 [] [] (Zw.k0 _) trivial Zw.i329 rfl rfl rowsHold_nil Zw.r329
theorem Zw.n138 {W : World} {n0 : Int} {a1 : Option Addr} {m1 c1 : Nat} {f1q0 : Nat → Int} (r0 : R64 n0) (h1 : SlcOk W a1 m1 c1 1 (fun i => [.int .i64 (f1q0 i)])) (b1 : (m1 : Int) < 9223372036854775808) (r1q0 : ∀ i, R64 (f1q0 i)) : NdGood Tryz.prog Tryz.f6 8 Tryz.H0 W Zw.p0 Zw.d138 [(.slice a1 m1 c1)] := by
  have ⟨rl0, rh0⟩ := r0
  exact Zw.fx Zw.t330 [] [] (Zw.k0 _) trivial Zw.i330 rfl rfl rowsHold_nil Zw.r330
theorem Zw.n57 {W : World} {n0 : Int} {a1 : Option Addr} {m1 c1 : Nat} {f1q0 : Nat → Int} (r0 : R64 n0) (h1 : SlcOk W a1 m1 c1 1 (fun i => [.int .i64 (f1q0 i)])) (b1 : (m1 : Int) < 9223372036854775808) (r1q0 : ∀ i, R64 (f1q0 i)) : NdGood Tryz.prog Tryz.f6 8 Tryz.H0 W Zw.p0 Zw.d57 [(.slice a1 m1 c1)] := by
  have ⟨rl0, rh0⟩ := r0
  by_cases q1 : (2 : Int) < (m1 : Int)
  ·
    have l2 : 2 < m1 := by omega
    obtain ⟨p2, v2⟩ := h1.elem l2
    have w2q0 := r1q0 2
    obtain ⟨d3, ⟨y3, e3, z3, u3, w3⟩, g3, o3⟩ := ex_rem (f1q0 2) (5 : Int) (by omega) (by omega)
    obtain ⟨d4, e4, g4, o4⟩ := ex_add d3 (5 : Int)
    obtain ⟨d5, ⟨y5, e5, z5, u5, w5⟩, g5, o5⟩ := ex_rem d4 (5 : Int) (by omega) (by omega)
    rcases (show d5 = 0 ∨ d5 = 1 ∨ d5 = 2 ∨ d5 = 3 ∨ d5 = 4 by omega) with k5 | k5 | k5 | k5 | k5
    ·
      exact Zw.nx Zw.t189 [(.int .i64 (f1q0 2)), (.int .i64 (m1 : Int)), (.int .i64 d3), (.int .i64 d4)] [p2] [(.slice a1 m1 c1)] (Zw.k0 _) ⟨hold_len (.atom _ _ rfl) (.atom _ _ rfl), hold_bool (.int _ _) (.atom _ _ rfl) (op_lss_t q1), hold_idx v2 l2 (.atom _ _ rfl) (.int _ _) (by omega) rfl, hold_op (.atom _ _ rfl) (.int _ _) (o3 .i64) (.atom _ _ rfl), hold_op (.atom _ _ rfl) (.int _ _) o4 (.atom _ _ rfl), hold_op (.atom _ _ rfl) (.int _ _) (by have := (o5 .i64); rw [k5] at this; exact this) (.int _ _), trivial⟩ Zw.i189 rfl rfl (rowsHold_cons (Elem.row v2 (VL.cons (.atom _ _ rfl) VL.nil)) rowsHold_nil) Zw.r189 rfl rfl (Zw.n134 r0 h1 b1 r1q0 )
    ·
      exact Zw.nx Zw.t190 [(.int .i64 (f1q0 2)), (.int .i64 (m1 : Int)), (.int .i64 d3), (.int .i64 d4)] [p2] [(.slice a1 m1 c1)] (Zw.k0 _) ⟨hold_len (.atom _ _ rfl) (.atom _ _ rfl), hold_bool (.int _ _) (.atom _ _ rfl) (op_lss_t q1), hold_idx v2 l2 (.atom _ _ rfl) (.int _ _) (by omega) rfl, hold_op (.atom _ _ rfl) (.int _ _) (o3 .i64) (.atom _ _ rfl), hold_op (.atom _ _ rfl) (.int _ _) o4 (.atom _ _ rfl), hold_op (.atom _ _ rfl) (.int _ _) (by have := (o5 .i64); rw [k5] at this; exact this) (.int _ _), trivial⟩ Zw.i190 rfl rfl (rowsHold_cons (Elem.row v2 (VL.cons (.atom _ _ rfl) VL.nil)) rowsHold_nil) Zw.r190 rfl rfl (Zw.n135 r0 h1 b1 r1q0 )
    ·
      exact Zw.nx Zw.t191 [(.int .i64 (f1q0 2)), (.int .i64 (m1 : Int)), (.int .i64 d3), (.int .i64 d4)] [p2] [(.slice a1 m1 c1)] (Zw.k0 _) ⟨hold_len (.atom _ _ rfl) (.atom _ _ rfl), hold_bool (.int _ _) (.atom _ _ rfl) (op_lss_t q1), hold_idx v2 l2 (.atom _ _ rfl) (.int _ _) (by omega) rfl, hold_op (.atom _ _ rfl) (.int _ _) (o3 .i64) (.atom _ _ rfl), hold_op (.atom _ _ rfl) (.int _ _) o4 (.atom _ _ rfl), hold_op (.atom _ _ rfl) (.int _ _) (by have := (o5 .i64); rw [k5] at this; exact this) (.int _ _), trivial⟩ Zw.i191 rfl rfl (rowsHold_cons (Elem.row v2 (VL.cons (.atom _ _ rfl) VL.nil)) rowsHold_nil) Zw.r191 rfl rfl (Zw.n136 r0 h1 b1 r1q0 )
    ·
      exact Zw.nx Zw.t192 [(.int .i64 (f1q0 2)), (.int .i64 (m1 : Int)), (.int .i64 d3), (.int .i64 d4)] [p2] [(.slice a1 m1 c1)] (Zw.k0 _) ⟨hold_len (.atom _ _ rfl) (.atom _ _ rfl), hold_bool (.int _ _) (.atom _ _ rfl) (op_lss_t q1), hold_idx v2 l2 (.atom _ _ rfl) (.int _ _) (by omega) rfl, hold_op (.atom _ _ rfl) (.int _ _) (o3 .i64) (.atom _ _ rfl), hold_op (.atom _ _ rfl) (.int _ _) o4 (.atom _ _ rfl), hold_op (.atom _ _ rfl) (.int _ _) (by have := (o5 .i64); rw [k5] at this; exact this) (.int _ _), trivial⟩ Zw.i192 rfl rfl (rowsHold_cons (Elem.row v2 (VL.cons (.atom _ _ rfl) VL.nil)) rowsHold_nil) Zw.r192 rfl rfl (Zw.n137 r0 h1 b1 r1q0 )
    ·
      exact Zw.nx Zw.t193 [(.int .i64 (f1q0 2)), (.int .i64 (m1 : Int)), (.int .i64 d3), (.int .i64 d4)] [p2] [(.slice a1 m1 c1)] (Zw.k0 _) ⟨hold_len (.atom _ _ rfl) (.atom _ _ rfl), hold_bool (.int _ _) (.atom _ _ rfl) (op_lss_t q1), hold_idx v2 l2 (.atom _ _ rfl) (.int _ _) (by omega) rfl, hold_op (.atom _ _ rfl) (.int _ _) (o3 .i64) (.atom _ _ rfl), hold_op (.atom _ _ rfl) (.int _ _) o4 (.atom _ _ rfl), hold_op (.atom _ _ rfl) (.int _ _) (by have := (o5 .i64); rw [k5] at this; exact this) (.int _ _), trivial⟩ Zw.i193 rfl rfl (rowsHold_cons (Elem.row v2 (VL.cons (.atom _ _ rfl) VL.nil)) rowsHold_nil) Zw.r193 rfl rfl (Zw.n138 r0 h1 b1 r1q0 )
  ·
    exact Zw.nx Zw.t194 [(.int .i64 (m1 : Int))] [] [(.slice a1 m1 c1)] (Zw.k0 _) ⟨hold_len (.atom _ _ rfl) (.atom _ _ rfl), hold_bool (.int _ _) (.atom _ _ rfl) (op_lss_f (Int.not_lt.1 q1)), trivial⟩ Zw.i194 rfl rfl rowsHold_nil Zw.r194 rfl rfl (Zw.n134 r0 h1 b1 r1q0 )
theorem Zw.n139 {W : World} {n0 : Int} {a1 : Option Addr} {m1 c1 : Nat} {f1q0 : Nat → Int} (r0 : R64 n0) (h1 : SlcOk W a1 m1 c1 1 (fun i => [.int .i64 (f1q0 i)])) (b1 : (m1 : Int) < 9223372036854775808) (r1q0 : ∀ i, R64 (f1q0 i)) : NdGood Tryz.prog Tryz.f6 8 Tryz.H0 W Zw.p0 Zw.d139 [(.slice a1 m1 c1)] := by
  have ⟨rl0, rh0⟩ := r0
  exact Zw.fx Zw.t331 [] [] (Zw.k0 _) trivial Zw.i331 rfl rfl rowsHold_nil Zw.r331
theorem Zw.n140 {W : World} {n0 : Int} {a1 : Option Addr} {m1 c1 : Nat} {f1q0 : Nat → Int} (r0 : R64 n0) (h1 : SlcOk W a1 m1 c1 1 (fun i => [.int .i64 (f1q0 i)])) (b1 : (m1 : Int) < 9223372036854775808) (r1q0 : ∀ i, R64 (f1q0 i)) : NdGood Tryz.prog Tryz.f6 8 Tryz.H0 W Zw.p0 Zw.d140 [(.slice a1 m1 c1)] := by
  have ⟨rl0, rh0⟩ := r0
  exact Zw.fx Zw.t332 [] [] (Zw.k0 _) trivial Zw.i332 rfl rfl rowsHold_nil Zw.r332
theorem Zw.n141 {W : World} {n0 : Int} {a1 : Option Addr} {m1 c1 : Nat} {f1q0 : Nat → Int} (r0 : R64 n0) (h1 : SlcOk W a1 m1 c1 1 (fun i => [.int .i64 (f1q0 i)])) (b1 : (m1 : Int) < 9223372036854775808) (r1q0 : ∀ i, R64 (f1q0 i)) : NdGood Tryz.prog Tryz.f6 8 Tryz.H0 W Zw.p0 Zw.d141 [(.slice a1 m1 c1)] := by
  have ⟨rl0, rh0⟩ := r0
  exact Zw.fx Zw.t333 [] [] (Zw.k0 _) trivial Zw.i333 rfl rfl rowsHold_nil Zw.r333
theorem Zw.n142 {W : World} {n0 : Int} {a1 : Option Addr} {m1 c1 : Nat} {f1q0 : Nat → Int} (r0 : R64 n0) (h1 : SlcOk W a1 m1 c1 1 (fun i => [.int .i64 (f1q0 i)])) (b1 : (m1 : Int) < 9223372036854775808) (r1q0 : ∀ i, R64 (f1q0 i)) : NdGood Tryz.prog Tryz.f6 8 Tryz.H0 W Zw.p0 Zw.d142 [(.slice a1 m1 c1)] := by
  have ⟨rl0, rh0⟩ := r0
  exact Zw.fx Zw.t334 [] [] (Zw.k0 _) trivial Zw.i334 rfl rfl rowsHold_nil Zw.r334
theorem Zw.n143 {W : World} {n0 : Int} {a1 : Option Addr} {m1 c1 : Nat} {f1q0 : Nat → Int} (r0 : R64 n0) (h1 : SlcOk W a1 m1 c1 1 (fun i => [.int .i64 (f1q0 i)])) (b1 : (m1 : Int) < 9223372036854775808) (r1q0 : ∀ i, R64 (f1q0 i)) : NdGood Tryz.prog Tryz.f6 8 Tryz.H0 W Zw.p0 Zw.d143 [(.slice a1 m1 c1)] := by
  have ⟨rl0, rh0⟩ := r0
  exact Zw.fx Zw.t335 [] [] (Zw.k0 _) trivial Zw.i335 rfl rfl rowsHold_nil Zw.r335
theorem Zw.n58 {W : World} {n0 : Int} {a1 : Option Addr} {m1 c1 : Nat} {f1q0 : Nat → Int} (r0 : R64 n0) (h1 : SlcOk W a1 m1 c1 1 (fun i => [.int .i64 (f1q0 i)])) (b1 : (m1 : Int) < 9223372036854775808) (r1q0 : ∀ i, R64 (f1q0 i)) : NdGood Tryz.prog Tryz.f6 8 Tryz.H0 W Zw.p0 Zw.d58 [(.slice a1 m1 c1)] := by
  have ⟨rl0, rh0⟩ := r0
  by_cases q1 : (2 : Int) < (m1 : Int)
  ·
    have l2 : 2 < m1 := by omega
    obtain ⟨p2, v2⟩ := h1.elem l2
    have w2q0 := r1q0 2
    obtain ⟨d3, ⟨y3, e3, z3, u3, w3⟩, g3, o3⟩ := ex_rem (f1q0 2) (5 : Int) (by omega) (by omega)
    obtain ⟨d4, e4, g4, o4⟩ := ex_add d3 (5 : Int)
    obtain ⟨d5, ⟨y5, e5, z5, u5, w5⟩, g5, o5⟩ := ex_rem d4 (5 : Int) (by omega) (by omega)
    rcases (show d5 = 0 ∨ d5 = 1 ∨ d5 = 2 ∨ d5 = 3 ∨ d5 = 4 by omega) with k5 | k5 | k5 | k5 | k5
    ·
      exact Zw.nx Zw.t195 [(.int .i64 (f1q0 2)), (.int .i64 (m1 : Int)), (.int .i64 d3), (.int .i64 d4)] [p2] [(.slice a1 m1 c1)] (Zw.k0 _) ⟨hold_len (.atom _ _ rfl) (.atom _ _ rfl), hold_bool (.int _ _) (.atom _ _ rfl) (op_lss_t q1), hold_idx v2 l2 (.atom _ _ rfl) (.int _ _) (by omega) rfl, hold_op (.atom _ _ rfl) (.int _ _) (o3 .i64) (.atom _ _ rfl), hold_op (.atom _ _ rfl) (.int _ _) o4 (.atom _ _ rfl), hold_op (.atom _ _ rfl) (.int _ _) (by have := (o5 .i64); rw [k5] at this; exact this) (.int _ _), trivial⟩ Zw.i195 rfl rfl (rowsHold_cons (Elem.row v2 (VL.cons (.atom _ _ rfl) VL.nil)) rowsHold_nil) Zw.r195 rfl rfl (Zw.n139 r0 h1 b1 r1q0 )
    ·
      exact Zw.nx Zw.t196 [(.int .i64 (f1q0 2)), (.int .i64 (m1 : Int)), (.int .i64 d3), (.int .i64 d4)] [p2] [(.slice a1 m1 c1)] (Zw.k0 _) ⟨hold_len (.atom _ _ rfl) (.atom _ _ rfl), hold_bool (.int _ _) (.atom _ _ rfl) (op_lss_t q1), hold_idx v2 l2 (.atom _ _ rfl) (.int _ _) (by omega) rfl, hold_op (.atom _ _ rfl) (.int _ _) (o3 .i64) (.atom _ _ rfl), hold_op (.atom _ _ rfl) (.int _ _) o4 (.atom _ _ rfl), hold_op (.atom _ _ rfl) (.int _ _) (by have := (o5 .i64); rw [k5] at this; exact this) (.int _ _), trivial⟩ Zw.i196 rfl rfl (rowsHold_cons (Elem.row v2 (VL.cons (.atom _ _ rfl) VL.nil)) rowsHold_nil) Zw.r196 rfl rfl (Zw.n140 r0 h1 b1 r1q0 )
    ·
      exact Zw.nx Zw.t197 [(.int .i64 (f1q0 2)), (.int .i64 (m1 : Int)), (.int .i64 d3), (.int .i64 d4)] [p2] [(.slice a1 m1 c1)] (Zw.k0 _) ⟨hold_len (.atom _ _ rfl) (.atom _ _ rfl), hold_bool (.int _ _) (.atom _ _ rfl) (op_lss_t q1), hold_idx v2 l2 (.atom _ _ rfl) (.int _ _) (by omega) rfl, hold_op (.atom _ _ rfl) (.int _ _) (o3 .i64) (.atom _ _ rfl), hold_op (.atom _ _ rfl) (.int _ _) o4 (.atom _ _ rfl), hold_op (.atom _ _ rfl) (.int _ _) (by have := (o5 .i64); rw [k5] at this; exact this) (.int _ _), trivial⟩ Zw.i197 rfl rfl (rowsHold_cons (Elem.row v2 (VL.cons (.atom _ _ rfl) VL.nil)) rowsHold_nil) Zw.r197 rfl rfl (Zw.n141 r0 h1 b1 r1q0 )
    ·
      exact Zw.nx Zw.t198 [(.int .i64 (f1q0 2)), (.int .i64 (m1 : Int)), (.int .i64 d3), (.int .i64 d4)] [p2] [(.slice a1 m1 c1)] (Zw.k0 _) ⟨hold_len (.atom _ _ rfl) (.atom _ _ rfl), hold_bool (.int _ _) (.atom _ _ rfl) (op_lss_t q1), hold_idx v2 l2 (.atom _ _ rfl) (.int _ _) (by omega) rfl, hold_op (.atom _ _ rfl) (.int _ _) (o3 .i64) (.atom _ _ rfl), hold_op (.atom _ _ rfl) (.int _ _) o4 (.atom _ _ rfl), hold_op (.atom _ _ rfl) (.int _ _) (by have := (o5 .i64); rw [k5] at this; exact this) (.int _ _), trivial⟩ Zw.i198 rfl rfl (rowsHold_cons (Elem.row v2 (VL.cons (.atom _ _ rfl) VL.nil)) rowsHold_nil) Zw.r198 rfl rfl (Zw.n142 r0 h1 b1 r1q0 )
    ·
      exact Zw.nx Zw.t199 [(.int .i64 (f1q0 2)), (.int .i64 (m1 : Int)), (.int .i64 d3), (.int .i64 d4)] [p2] [(.slice a1 m1 c1)] (Zw.k0 _) ⟨hold_len (.atom _ _ rfl) (.atom _ _ rfl), hold_bool (.int _ _) (.atom _ _ rfl) (op_lss_t q1), hold_idx v2 l2 (.atom _ _ rfl) (.int _ _) (by omega) rfl, hold_op (.atom _ _ rfl) (.int _ _) (o3 .i64) (.atom _ _ rfl), hold_op (.atom _ _ rfl) (.int _ _) o4 (.atom _ _ rfl), hold_op (.atom _ _ rfl) (.int _ _) (by have := (o5 .i64); rw [k5] at this; exact this) (.int _ _), trivial⟩ Zw.i199 rfl rfl (rowsHold_cons (Elem.row v2 (VL.cons (.atom _ _ rfl) VL.nil)) rowsHold_nil) Zw.r199 rfl rfl (Zw.n143 r0 h1 b1 r1q0 )
  ·
    exact Zw.nx Zw.t200 [(.int .i64 (m1 : Int))] [] [(.slice a1 m1 c1)] (Zw.k0 _) ⟨hold_len (.atom _ _ rfl) (.atom _ _ rfl), hold_bool (.int _ _) (.atom _ _ rfl) (op_lss_f (Int.not_lt.1 q1)), trivial⟩ Zw.i200 rfl rfl rowsHold_nil Zw.r200 rfl rfl (Zw.n139 r0 h1 b1 r1q0 )
theorem Zw.n16 {W : World} {n0 : Int} {a1 : Option Addr} {m1 c1 : Nat} {f1q0 : Nat → Int} (r0 : R64 n0) (h1 : SlcOk W a1 m1 c1 1 (fun i => [.int .i64 (f1q0 i)])) (b1 : (m1 : Int) < 9223372036854775808) (r1q0 : ∀ i, R64 (f1q0 i)) : NdGood Tryz.prog Tryz.f6 8 Tryz.H0 W Zw.p0 Zw.d16 [(.slice a1 m1 c1)] := by
  have ⟨rl0, rh0⟩ := r0
  by_cases q1 : (1 : Int) < (m1 : Int)
  ·
    have l2 : 1 < m1 := by omega
    obtain ⟨p2, v2⟩ := h1.elem l2
    have w2q0 := r1q0 1
    obtain ⟨d3, ⟨y3, e3, z3, u3, w3⟩, g3, o3⟩ := ex_rem (f1q0 1) (5 : Int) (by omega) (by omega)
    obtain ⟨d4, e4, g4, o4⟩ := ex_add d3 (5 : Int)
    obtain ⟨d5, ⟨y5, e5, z5, u5, w5⟩, g5, o5⟩ := ex_rem d4 (5 : Int) (by omega) (by omega)
    rcases (show d5 = 0 ∨ d5 = 1 ∨ d5 = 2 ∨ d5 = 3 ∨ d5 = 4 by omega) with k5 | k5 | k5 | k5 | k5
    ·
      exact Zw.nx Zw.t68 [(.int .i64 (f1q0 1)), (.int .i64 (m1 : Int)), (.int .i64 d3), (.int .i64 d4)] [p2] [(.slice a1 m1 c1)] (Zw.k0 _) ⟨hold_len (.atom _ _ rfl) (.atom _ _ rfl), hold_bool (.int _ _) (.atom _ _ rfl) (op_lss_t q1), hold_idx v2 l2 (.atom _ _ rfl) (.int _ _) (by omega) rfl, hold_op (.atom _ _ rfl) (.int _ _) (o3 .i64) (.atom _ _ rfl), hold_op (.atom _ _ rfl) (.int _ _) o4 (.atom _ _ rfl), hold_op (.atom _ _ rfl) (.int _ _) (by have := (o5 .i64); rw [k5] at this; exact this) (.int _ _), trivial⟩ Zw.i68 rfl rfl (rowsHold_cons (Elem.row v2 (VL.cons (.atom _ _ rfl) VL.nil)) rowsHold_nil) Zw.r68 rfl rfl (Zw.n54 r0 h1 b1 r1q0 )
    ·
      exact Zw.nx Zw.t69 [(.int .i64 (f1q0 1)), (.int .i64 (m1 : Int)), (.int .i64 d3), (.int .i64 d4)] [p2] [(.slice a1 m1 c1)] (Zw.k0 _) ⟨hold_len (.atom _ _ rfl) (.atom _ _ rfl), hold_bool (.int _ _) (.atom _ _ rfl) (op_lss_t q1), hold_idx v2 l2 (.atom _ _ rfl) (.int _ _) (by omega) rfl, hold_op (.atom _ _ rfl) (.int _ _) (o3 .i64) (.atom _ _ rfl), hold_op (.atom _ _ rfl) (.int _ _) o4 (.atom _ _ rfl), hold_op (.atom _ _ rfl) (.int _ _) (by have := (o5 .i64); rw [k5] at this; exact this) (.int _ _), trivial⟩ Zw.i69 rfl rfl (rowsHold_cons (Elem.row v2 (VL.cons (.atom _ _ rfl) VL.nil)) rowsHold_nil) Zw.r69 rfl rfl (Zw.n55 r0 h1 b1 r1q0 )
    ·
      exact Zw.nx Zw.t70 [(.int .i64 (f1q0 1)), (.int .i64 (m1 : Int)), (.int .i64 d3), (.int .i64 d4)] [p2] [(.slice a1 m1 c1)] (Zw.k0 _) ⟨hold_len (.atom _ _ rfl) (.atom _ _ rfl), hold_bool (.int _ _) (.atom _ _ rfl) (op_lss_t q1), hold_idx v2 l2 (.atom _ _ rfl) (.int _ _) (by omega) rfl, hold_op (.atom _ _ rfl) (.int _ _) (o3 .i64) (.atom _ _ rfl), hold_op (.atom _ _ rfl) (.int _ _) o4 (.atom _ _ rfl), hold_op (.atom _ _ rfl) (.int _ _) (by have := (o5 .i64); rw [k5] at this; exact this) (.int _ _), trivial⟩ Zw.i70 rfl rfl (rowsHold_cons (Elem.row v2 (VL.cons (.atom _ _ rfl) VL.nil)) rowsHold_nil) Zw.r70 rfl rfl (Zw.n56 r0 h1 b1 r1q0 )
    ·
      exact Zw.nx Zw.t71 [(.int .i64 (f1q0 1)), (.int .i64 (m1 : Int)), (.int .i64 d3), (.int .i64 d4)] [p2] [(.slice a1 m1 c1)] (Zw.k0 _) ⟨hold_len (.atom _ _ rfl) (.atom _ _ rfl), hold_bool (.int _ _) (.atom _ _ rfl) (op_lss_t q1), hold_idx v2 l2 (.atom _ _ rfl) (.int _ _) (by omega) rfl, hold_op (.atom _ _ rfl) (.int _ _) (o3 .i64) (.atom _ _ rfl), hold_op (.atom _ _ rfl) (.int _ _) o4 (.atom _ _ rfl), hold_op (.atom _ _ rfl) (.int _ _) (by have := (o5 .i64); rw [k5] at this; exact this) (.int _ _), trivial⟩ Zw.i71 rfl rfl (rowsHold_cons (Elem.row v2 (VL.cons (.atom _ _ rfl) VL.nil)) rowsHold_nil) Zw.r71 rfl rfl (Zw.n57 r0 h1 b1 r1q0 )
    ·
      exact Zw.nx Zw.t72 [(.int .i64 (f1q0 1)), (.int .i64 (m1 : Int)), (.int .i64 d3), (.int .i64 d4)] [p2] [(.slice a1 m1 c1)] (Zw.k0 _) ⟨hold_len (.atom _ _ rfl) (.atom _ _ rfl), hold_bool (.int _ _) (.atom _ _ rfl) (op_lss_t q1), hold_idx v2 l2 (.atom _ _ rfl) (.int _ _) (by omega) rfl, hold_op (.atom _ _ rfl) (.int _ _) (o3 .i64) (.atom _ _ rfl), hold_op (.atom _ _ rfl) (.int _ _) o4 (.atom _ _ rfl), hold_op (.atom _ _ rfl) (.int _ _) (by have := (o5 .i64); rw [k5] at this; exact this) (.int _ _), trivial⟩ Zw.i72 rfl rfl (rowsHold_cons (Elem.row v2 (VL.cons (.atom _ _ rfl) VL.nil)) rowsHold_nil) Zw.r72 rfl rfl (Zw.n58 r0 h1 b1 r1q0 )
  ·
    exact Zw.nx Zw.t73 [(.int .i64 (m1 : Int))] [] [(.slice a1 m1 c1)] (Zw.k0 _) ⟨hold_len (.atom _ _ rfl) (.atom _ _ rfl), hold_bool (.int _ _) (.atom _ _ rfl) (op_lss_f (Int.not_lt.1 q1)), trivial⟩ Zw.i73 rfl rfl rowsHold_nil Zw.r73 rfl rfl (Zw.n54 r0 h1 b1 r1q0 )
theorem Zw.n144 {W : World} {n0 : Int} {a1 : Option Addr} {m1 c1 : Nat} {f1q0 : Nat → Int} (r0 : R64 n0) (h1 : SlcOk W a1 m1 c1 1 (fun i => [.int .i64 (f1q0 i)])) (b1 : (m1 : Int) < 9223372036854775808) (r1q0 : ∀ i, R64 (f1q0 i)) : NdGood Tryz.prog Tryz.f6 8 Tryz.H0 W Zw.p0 Zw.d144 [(.slice a1 m1 c1)] := by
  have ⟨rl0, rh0⟩ := r0
  exact Zw.fx Zw.t336 [] [] (Zw.k0 _) trivial Zw.i336 rfl rfl rowsHold_nil Zw.r336
theorem Zw.n145 {W : World} {n0 : Int} {a1 : Option Addr} {m1 c1 : Nat} {f1q0 : Nat → Int} (r0 : R64 n0) (h1 : SlcOk W a1 m1 c1 1 (fun i => [.int .i64 (f1q0 i)])) (b1 : (m1 : Int) < 9223372036854775808) (r1q0 : ∀ i, R64 (f1q0 i)) : NdGood Tryz.prog Tryz.f6 8 Tryz.H0 W Zw.p0 Zw.d145 [(.slice a1 m1 c1)] := by
  have ⟨rl0, rh0⟩ := r0
  exact Zw.fx Zw.t337 [] [] (Zw.k0 _) trivial Zw.i337 rfl rfl rowsHold_nil Zw.r337
theorem Zw.n146 {W : World} {n0 : Int} {a1 : Option Addr} {m1 c1 : Nat} {f1q0 : Nat → Int} (r0 : R64 n0) (h1 : SlcOk W a1 m1 c1 1 (fun i => [.int .i64 (f1q0 i)])) (b1 : (m1 : Int) < 9223372036854775808) (r1q0 : ∀ i, R64 (f1q0 i)) : NdGood Tryz.prog Tryz.f6 8 Tryz.H0 W Zw.p0 Zw.d146 [(.slice a1 m1 c1)] := by
  have ⟨rl0, rh0⟩ := r0
  exact Zw.fx Zw.t338 [] [] (Zw.k0 _) trivial Zw.i338 rfl rfl rowsHold_nil Zw.r338
theorem Zw.n147 {W : World} {n0 : Int} {a1 : Option Addr} {m1 c1 : Nat} {f1q0 : Nat → Int} (r0 : R64 n0) (h1 : SlcOk W a1 m1 c1 1 (fun i => [.int .i64 (f1q0 i)])) (b1 : (m1 : Int) < 9223372036854775808) (r1q0 : ∀ i, R64 (f1q0 i)) : NdGood Tryz.prog Tryz.f6 8 Tryz.H0 W Zw.p0 Zw.d147 [(.slice a1 m1 c1)] := by
  have ⟨rl0, rh0⟩ := r0
  exact Zw.fx Zw.t339 [] [] (Zw.k0 _) trivial Zw.i339 rfl rfl rowsHold_nil Zw.r339
theorem Zw.n148 {W : World} {n0 : Int} {a1 : Option Addr} {m1 c1 : Nat} {f1q0 : Nat → Int} (r0 : R64 n0) (h1 : SlcOk W a1 m1 c1 1 (fun i => [.int .i64 (f1q0 i)])) (b1 : (m1 : Int) < 9223372036854775808) (r1q0 : ∀ i, R64 (f1q0 i)) : NdGood Tryz.prog Tryz.f6 8 Tryz.H0 W Zw.p0 Zw.d148 [(.slice a1 m1 c1)] := by
  have ⟨rl0, rh0⟩ := r0
  exact Zw.fx Zw.t340 [] [] (Zw.k0 _) trivial Zw.i340 rfl rfl rowsHold_nil Zw.r340
theorem Zw.n59 {W : World} {n0 : Int} {a1 : Option Addr} {m1 c1 : Nat} {f1q0 : Nat → Int} (r0 : R64 n0) (h1 : SlcOk W a1 m1 c1 1 (fun i => [.int .i64 (f1q0 i)])) (b1 : (m1 : Int) < 9223372036854775808) (r1q0 : ∀ i, R64 (f1q0 i)) : NdGood Tryz.prog Tryz.f6 8 Tryz.H0 W Zw.p0 Zw.d59 [(.slice a1 m1 c1)] := by
  have ⟨rl0, rh0⟩ := r0
  by_cases q1 : (2 : Int) < (m1 : Int)
  ·
    have l2 : 2 < m1 := by omega
    obtain ⟨p2, v2⟩ := h1.elem l2
    have w2q0 := r1q0 2
    obtain ⟨d3, ⟨y3, e3, z3, u3, w3⟩, g3, o3⟩ := ex_rem (f1q0 2) (5 : Int) (by omega) (by omega)
    obtain ⟨d4, e4, g4, o4⟩ := ex_add d3 (5 : Int)
    obtain ⟨d5, ⟨y5, e5, z5, u5, w5⟩, g5, o5⟩ := ex_rem d4 (5 : Int) (by omega) (by omega)
    rcases (show d5 = 0 ∨ d5 = 1 ∨ d5 = 2 ∨ d5 = 3 ∨ d5 = 4 by omega) with k5 | k5 | k5 | k5 | k5
    ·
      exact Zw.nx Zw.t201 [(.int .i64 (f1q0 2)), (.int .i64 (m1 : Int)), (.int .i64 d3), (.int .i64 d4)] [p2] [(.slice a1 m1 c1)] (Zw.k0 _) ⟨hold_len (.atom _ _ rfl) (.atom _ _ rfl), hold_bool (.int _ _) (.atom _ _ rfl) (op_lss_t q1), hold_idx v2 l2 (.atom _ _ rfl) (.int _ _) (by omega) rfl, hold_op (.atom _ _ rfl) (.int _ _) (o3 .i64) (.atom _ _ rfl), hold_op (.atom _ _ rfl) (.int _ _) o4 (.atom _ _ rfl), hold_op (.atom _ _ rfl) (.int _ _) (by have := (o5 .i64); rw [k5] at this; exact this) (.int _ _), trivial⟩ Zw.i201 rfl rfl (rowsHold_cons (Elem.row v2 (VL.cons (.atom _ _ rfl) VL.nil)) rowsHold_nil) Zw.r201 rfl rfl (Zw.n144 r0 h1 b1 r1q0 )
    ·
      exact Zw.nx Zw.t202 [(.int .i64 (f1q0 2)), (.int .i64 (m1 : Int)), (.int .i64 d3), (.int .i64 d4)] [p2] [(.slice a1 m1 c1)] (Zw.k0 _) ⟨hold_len (.atom _ _ rfl) (.atom _ _ rfl), hold_bool (.int _ _) (.atom _ _ rfl) (op_lss_t q1), hold_idx v2 l2 (.atom _ _ rfl) (.int _ _) (by omega) rfl, hold_op (.atom _ _ rfl) (.int _ _) (o3 .i64) (.atom _ _ rfl), hold_op (.atom _ _ rfl) (.int _ _) o4 (.atom _ _ rfl), hold_op (.atom _ _ rfl) (.int _ _) (by have := (o5 .i64); rw [k5] at this; exact this) (.int _ _), trivial⟩ Zw.i202 rfl rfl (rowsHold_cons (Elem.row v2 (VL.cons (.atom _ _ rfl) VL.nil)) rowsHold_nil) Zw.r202 rfl rfl (Zw.n145 r0 h1 b1 r1q0 )
    ·
      exact Zw.nx Zw.t203 [(.int .i64 (f1q0 2)), (.int .i64 (m1 : Int)), (.int .i64 d3), (.int .i64 d4)] [p2] [(.slice a1 m1 c1)] (Zw.k0 _) ⟨hold_len (.atom _ _ rfl) (.atom _ _ rfl), hold_bool (.int _ _) (.atom _ _ rfl) (op_lss_t q1), hold_idx v2 l2 (.atom _ _ rfl) (.int _ _) (by omega) rfl, hold_op (.atom _ _ rfl) (.int _ _) (o3 .i64) (.atom _ _ rfl), hold_op (.atom _ _ rfl) (.int _ _) o4 (.atom _ _ rfl), hold_op (.atom _ _ rfl) (.int _ _) (by have := (o5 .i64); rw [k5] at this; exact this) (.int _ _), trivial⟩ Zw.i203 rfl rfl (rowsHold_cons (Elem.row v2 (VL.cons (.atom _ _ rfl) VL.nil)) rowsHold_nil) Zw.r203 rfl rfl (Zw.n146 r0 h1 b1 r1q0 )
    ·
      exact Zw.nx Zw.t204 [(.int .i64 (f1q0 2)), (.int .i64 (m1 : Int)), (.int .i64 d3), (.int .i64 d4)] [p2] [(.slice a1 m1 c1)] (Zw.k0 _) ⟨hold_len (.atom _ _ rfl) (.atom _ _ rfl), hold_bool (.int _ _) (.atom _ _ rfl) (op_lss_t q1), hold_idx v2 l2 (.atom _ _ rfl) (.int _ _) (by omega) rfl, hold_op (.atom _ _ rfl) (.int _ _) (o3 .i64) (.atom _ _ rfl), hold_op (.atom _ _ rfl) (.int _ _) o4 (.atom _ _ rfl), hold_op (.atom _ _ rfl) (.int _ _) (by have := (o5 .i64); rw [k5] at this; exact this) (.int _ _), trivial⟩ Zw.i204 rfl rfl (rowsHold_cons (Elem.row v2 (VL.cons (.atom _ _ rfl) VL.nil)) rowsHold_nil) Zw.r204 rfl rfl (Zw.n147 r0 h1 b1 r1q0 )
    ·
      exact Zw.nx Zw.t205 [(.int .i64 (f1q0 2)), (.int .i64 (m1 : Int)), (.int .i64 d3), (.int .i64 d4)] [p2] [(.slice a1 m1 c1)] (Zw.k0 _) ⟨hold_len (.atom _ _ rfl) (.atom _ _ rfl), hold_bool (.int _ _) (.atom _ _ rfl) (op_lss_t q1), hold_idx v2 l2 (.atom _ _ rfl) (.int _ _) (by omega) rfl, hold_op (.atom _ _ rfl) (.int _ _) (o3 .i64) (.atom _ _ rfl), hold_op (.atom _ _ rfl) (.int _ _) o4 (.atom _ _ rfl), hold_op (.atom _ _ rfl) (.int _ _) (by have := (o5 .i64); rw [k5] at this; exact this) (.int _ _), trivial⟩ Zw.i205 rfl rfl (rowsHold_cons (Elem.row v2 (VL.cons (.atom _ _ rfl) VL.nil)) rowsHold_nil) Zw.r205 rfl rfl (Zw.n148 r0 h1 b1 r1q0 )
  ·
    exact Zw.nx Zw.t206 [(.int .i64 (m1 : Int))] [] [(.slice a1 m1 c1)] (Zw.k0 _) ⟨hold_len (.atom _ _ rfl) (.atom _ _ rfl), hold_bool (.int _ _) (.atom _ _ rfl) (op_lss_f (Int.not_lt.1 q1)), trivial⟩ Zw.i206 rfl rfl rowsHold_nil Zw.r206 rfl rfl (Zw.n144 r0 h1 b1 r1q0 )
theorem Zw.n149 {W : World} {n0 : Int} {a1 : Option Addr} {m1 c1 : Nat} {f1q0 : Nat → Int} (r0 : R64 n0) (h1 : SlcOk W a1 m1 c1 1 (fun i => [.int .i64 (f1q0 i)])) (b1 : (m1 : Int) < 9223372036854775808) (r1q0 : ∀ i, R64 (f1q0 i)) : NdGood Tryz.prog Tryz.f6 8 Tryz.H0 W Zw.p0 Zw.d149 [(.slice a1 m1 c1)] := by
  have ⟨rl0, rh0⟩ := r0
  exact Zw.fx Zw.t341 [] [] (Zw.k0 _) trivial Zw.i341 rfl rfl rowsHold_nil Zw.r341
theorem Zw.n150 {W : World} {n0 : Int} {a1 : Option Addr} {m1 c1 : Nat} {f1q0 : Nat → Int} (r0 : R64 n0) (h1 : SlcOk W a1 m1 c1 1 (fun i => [.int .i64 (f1q0 i)])) (b1 : (m1 : Int) < 9223372036854775808) (r1q0 : ∀ i, R64 (f1q0 i)) : NdGood Tryz.prog Tryz.f6 8 Tryz.H0 W Zw.p0 Zw.d150 [(.slice a1 m1 c1)] := by
  have ⟨rl0, rh0⟩ := r0
  exact Zw.fx Zw.t342 [] [] (Zw.k0 _) trivial Zw.i342 rfl rfl rowsHold_nil Zw.r342
theorem Zw.n151 {W : World} {n0 : Int} {a1 : Option Addr} {m1 c1 : Nat} {f1q0 : Nat → Int} (r0 : R64 n0) (h1 : SlcOk W a1 m1 c1 1 (fun i => [.int .i64 (f1q0 i)])) (b1 : (m1 : Int) < 9223372036854775808) (r1q0 : ∀ i, R64 (f1q0 i)) : NdGood Tryz.prog Tryz.f6 8 Tryz.H0 W Zw.p0 Zw.d151 [(.slice a1 m1 c1)] := by
  have ⟨rl0, rh0⟩ := r0
  exact Zw.fx Zw.t343 [] [] (Zw.k0 _) trivial Zw.i343 rfl rfl rowsHold_nil Zw.r343
theorem Zw.n152 {W : World} {n0 : Int} {a1 : Option Addr} {m1 c1 : Nat} {f1q0 : Nat → Int} (r0 : R64 n0) (h1 : SlcOk W a1 m1 c1 1 (fun i => [.int .i64 (f1q0 i)])) (b1 : (m1 : Int) < 9223372036854775808) (r1q0 : ∀ i, R64 (f1q0 i)) : NdGood Tryz.prog Tryz.f6 8 Tryz.H0 W Zw.p0 Zw.d152 [(.slice a1 m1 c1)] := by
  have ⟨rl0, rh0⟩ := r0
  exact Zw.fx Zw.t344 [] [] (Zw.k0 _) trivial Zw.i344 rfl rfl rowsHold_nil Zw.r344
theorem Zw.n153 {W : World} {n0 : Int} {a1 : Option Addr} {m1 c1 : Nat} {f1q0 : Nat → Int} (r0 : R64 n0) (h1 : SlcOk W a1 m1 c1 1 (fun i => [.int .i64 (f1q0 i)])) (b1 : (m1 : Int) < 9223372036854775808) (r1q0 : ∀ i, R64 (f1q0 i)) : NdGood Tryz.prog Tryz.f6 8 Tryz.H0 W Zw.p0 Zw.d153 [(.slice a1 m1 c1)] := by
  have ⟨rl0, rh0⟩ := r0
  exact Zw.fx Zw.t345 [] [] (Zw.k0 _) trivial Zw.i345 rfl rfl rowsHold_nil Zw.r345
theorem Zw.n60 {W : World} {n0 : Int} {a1 : Option Addr} {m1 c1 : Nat} {f1q0 : Nat → Int} (r0 : R64 n0) (h1 : SlcOk W a1 m1 c1 1 (fun i => [.int .i64 (f1q0 i)])) (b1 : (m1 : Int) < 9223372036854775808) (r1q0 : ∀ i, R64 (f1q0 i)) : NdGood Tryz.prog Tryz.f6 8 Tryz.H0 W Zw.p0 Zw.d60 [(.slice a1 m1 c1)] := by
  have ⟨rl0, rh0⟩ := r0
  by_cases q1 : (2 : Int) < (m1 : Int)
  ·
    have l2 : 2 < m1 := by omega
    obtain ⟨p2, v2⟩ := h1.elem l2
    have w2q0 := r1q0 2
    obtain ⟨d3, ⟨y3, e3, z3, u3, w3⟩, g3, o3⟩ := ex_rem (f1q0 2) (5 : Int) (by omega) (by omega)
    obtain ⟨d4, e4, g4, o4⟩ := ex_add d3 (5 : Int)
    obtain ⟨d5, ⟨y5, e5, z5, u5, w5⟩, g5, o5⟩ := ex_rem d4 (5 : Int) (by omega) (by omega)
    rcases (show d5 = 0 ∨ d5 = 1 ∨ d5 = 2 ∨ d5 = 3 ∨ d5 = 4 by omega) with k5 | k5 | k5 | k5 | k5
    ·
      exact Zw.nx Zw.t207 [(.int .i64 (f1q0 2)), (.int .i64 (m1 : Int)), (.int .i64 d3), (.int .i64 d4)] [p2] [(.slice a1 m1 c1)] (Zw.k0 _) ⟨hold_len (.atom _ _ rfl) (.atom _ _ rfl), hold_bool (.int _ _) (.atom _ _ rfl) (op_lss_t q1), hold_idx v2 l2 (.atom _ _ rfl) (.int _ _) (by omega) rfl, hold_op (.atom _ _ rfl) (.int _ _) (o3 .i64) (.atom _ _ rfl), hold_op (.atom _ _ rfl) (.int _ _) o4 (.atom _ _ rfl), hold_op (.atom _ _ rfl) (.int _ _) (by have := (o5 .i64); rw [k5] at this; exact this) (.int _ _), trivial⟩ Zw.i207 rfl rfl (rowsHold_cons (Elem.row v2 (VL.cons (.atom _ _ rfl) VL.nil)) rowsHold_nil) Zw.r207 rfl rfl (Zw.n149 r0 h1 b1 r1q0 )
    ·
      exact Zw.nx Zw.t208 [(.int .i64 (f1q0 2)), (.int .i64 (m1 : Int)), (.int .i64 d3), (.int .i64 d4)] [p2] [(.slice a1 m1 c1)] (Zw.k0 _) ⟨hold_len (.atom _ _ rfl) (.atom _ _ rfl), hold_bool (.int _ _) (.atom _ _ rfl) (op_lss_t q1), hold_idx v2 l2 (.atom _ _ rfl) (.int _ _) (by omega) rfl, hold_op (.atom _ _ rfl) (.int _ _) (o3 .i64) (.atom _ _ rfl), hold_op (.atom _ _ rfl) (.int _ _) o4 (.atom _ _ rfl), hold_op (.atom _ _ rfl) (.int _ _) (by have := (o5 .i64); rw [k5] at this; exact this) (.int _ _), trivial⟩ Zw.i208 rfl rfl (rowsHold_cons (Elem.row v2 (VL.cons (.atom _ _ rfl) VL.nil)) rowsHold_nil) Zw.r208 rfl rfl (Zw.n150 r0 h1 b1 r1q0 )
    ·
      exact Zw.nx Zw.t209 [(.int .i64 (f1q0 2)), (.int .i64 (m1 : Int)), (.int .i64 d3), (.int .i64 d4)] [p2] [(.slice a1 m1 c1)] (Zw.k0 _) ⟨hold_len (.atom _ _ rfl) (.atom _ _ rfl), hold_bool (.int _ _) (.atom _ _ rfl) (op_lss_t q1), hold_idx v2 l2 (.atom _ _ rfl) (.int _ _) (by omega) rfl, hold_op (.atom _ _ rfl) (.int _ _) (o3 .i64) (.atom _ _ rfl), hold_op (.atom _ _ rfl) (.int _ _) o4 (.atom _ _ rfl), hold_op (.atom _ _ rfl) (.int _ _) (by have := (o5 .i64); rw [k5] at this; exact this) (.int _ _), trivial⟩ Zw.i209 rfl rfl (rowsHold_cons (Elem.row v2 (VL.cons (.atom _ _ rfl) VL.nil)) rowsHold_nil) Zw.r209 rfl rfl (Zw.n151 r0 h1 b1 r1q0 )
    ·
      exact Zw.nx Zw.t210 [(.int .i64 (f1q0 2)), (.int .i64 (m1 : Int)), (.int .i64 d3), (.int .i64 d4)] [p2] [(.slice a1 m1 c1)] (Zw.k0 _) ⟨hold_len (.atom _ _ rfl) (.atom _ _ rfl), hold_bool (.int _ _) (.atom _ _ rfl) (op_lss_t q1), hold_idx v2 l2 (.atom _ _ rfl) (.int _ _) (by omega) rfl, hold_op (.atom _ _ rfl) (.int _ _) (o3 .i64) (.atom _ _ rfl), hold_op (.atom _ _ rfl) (.int _ _) o4 (.atom _ _ rfl), hold_op (.atom _ _ rfl) (.int _ _) (by have := (o5 .i64); rw [k5] at this; exact this) (.int _ _), trivial⟩ Zw.i210 rfl rfl (rowsHold_cons (Elem.row v2 (VL.cons (.atom _ _ rfl) VL.nil)) rowsHold_nil) Zw.r210 rfl rfl (Zw.n152 r0 h1 b1 r1q0 )
    ·
      exact Zw.nx Zw.t211 [(.int .i64 (f1q0 2)), (.int .i64 (m1 : Int)), (.int .i64 d3), (.int .i64 d4)] [p2] [(.slice a1 m1 c1)] (Zw.k0 _) ⟨hold_len (.atom _ _ rfl) (.atom _ _ rfl), hold_bool (.int _ _) (.atom _ _ rfl) (op_lss_t q1), hold_idx v2 l2 (.atom _ _ rfl) (.int _ _) (by omega) rfl, hold_op (.atom _ _ rfl) (.int _ _) (o3 .i64) (.atom _ _ rfl), hold_op (.atom _ _ rfl) (.int _ _) o4 (.atom _ _ rfl), hold_op (.atom _ _ rfl) (.int _ _) (by have := (o5 .i64); rw [k5] at this; exact this) (.int _ _), trivial⟩ Zw.i211 rfl rfl (rowsHold_cons (Elem.row v2 (VL.cons (.atom _ _ rfl) VL.nil)) rowsHold_nil) Zw.r211 rfl rfl (Zw.n153 r0 h1 b1 r1q0 )
  ·
    exact Zw.nx Zw.t212 [(.int .i64 (m1 : Int))] [] [(.slice a1 m1 c1)] (Zw.k0 _) ⟨hold_len (.atom _ _ rfl) (.atom _ _ rfl), hold_bool (.int _ _) (.atom _ _ rfl) (op_lss_f (Int.not_lt.1 q1)), trivial⟩ Zw.i212 rfl rfl rowsHold_nil Zw.r212 rfl rfl (Zw.n149 r0 h1 b1 r1q0 )
theorem Zw.n154 {W : World} {n0 : Int} {a1 : Option Addr} {m1 c1 : Nat} {f1q0 : Nat → Int} (r0 : R64 n0) (h1 : SlcOk W a1 m1 c1 1 (fun i => [.int .i64 (f1q0 i)])) (b1 : (m1 : Int) < 9223372036854775808) (r1q0 : ∀ i, R64 (f1q0 i)) : NdGood Tryz.prog Tryz.f6 8 Tryz.H0 W Zw.p0 Zw.d154 [(.slice a1 m1 c1)] := by
  have ⟨rl0, rh0⟩ := r0
  exact Zw.fx Zw.t346 [] [] (Zw.k0 _) trivial Zw.i346 rfl rfl rowsHold_nil Zw.r346
theorem Zw.n155 {W : World} {n0 : Int} {a1 : Option Addr} {m1 c1 : Nat} {f1q0 : Nat → Int} (r0 : R64 n0) (h1 : SlcOk W a1 m1 c1 1 (fun i => [.int .i64 (f1q0 i)])) (b1 : (m1 : Int) < 9223372036854775808) (r1q0 : ∀ i, R64 (f1q0 i)) : NdGood Tryz.prog Tryz.f6 8 Tryz.H0 W Zw.p0 Zw.d155 [(.slice a1 m1 c1)] := by
  have ⟨rl0, rh0⟩ := r0
  exact Zw.fx Zw.t347 [] [] (Zw.k0 _) trivial Zw.i347 rfl rfl rowsHold_nil Zw.r347
theorem Zw.n156 {W : World} {n0 : Int} {a1 : Option Addr} {m1 c1 : Nat} {f1q0 : Nat → Int} (r0 : R64 n0) (h1 : SlcOk W a1 m1 c1 1 (fun i => [.int .i64 (f1q0 i)])) (b1 : (m1 : Int) < 9223372036854775808) (r1q0 : ∀ i, R64 (f1q0 i)) : NdGood Tryz.prog Tryz.f6 8 Tryz.H0 W Zw.p0 Zw.d156 [(.slice a1 m1 c1)] := by
  have ⟨rl0, rh0⟩ := r0
  exact Zw.fx Zw.t348 [] [] (Zw.k0 _) trivial Zw.i348 rfl rfl rowsHold_nil Zw.r348
theorem Zw.n157 {W : World} {n0 : Int} {a1 : Option Addr} {m1 c1 : Nat} {f1q0 : Nat → Int} (r0 : R64 n0) (h1 : SlcOk W a1 m1 c1 1 (fun i => [.int .i64 (f1q0 i)])) (b1 : (m1 : Int) < 9223372036854775808) (r1q0 : ∀ i, R64 (f1q0 i)) : NdGood Tryz.prog Tryz.f6 8 Tryz.H0 W Zw.p0 Zw.d157 [(.slice a1 m1 c1)] := by
  have ⟨rl0, rh0⟩ := r0
  exact Zw.fx Zw.t349 [] [] (Zw.k0 _) trivial Zw.i349 rfl rfl rowsHold_nil Zw.r349
theorem Zw.n158 {W : World} {n0 : Int} {a1 : Option Addr} {m1 c1 : Nat} {f1q0 : Nat → Int} (r0 : R64 n0) (h1 : SlcOk W a1 m1 c1 1 (fun i => [.int .i64 (f1q0 i)])) (b1 : (m1 : Int) < 9223372036854775808) (r1q0 : ∀ i, R64 (f1q0 i)) : NdGood Tryz.prog Tryz.f6 8 Tryz.H0 W Zw.p0 Zw.d158 [(.slice a1 m1 c1)] := by
  have ⟨rl0, rh0⟩ := r0
  exact Zw.fx Zw.t350 [] [] (Zw.k0 _) trivial Zw.i350 rfl rfl rowsHold_nil Zw.r350
theorem Zw.n61 {W : World} {n0 : Int} {a1 : Option Addr} {m1 c1 : Nat} {f1q0 : Nat → Int} (r0 : R64 n0) (h1 : SlcOk W a1 m1 c1 1 (fun i => [.int .i64 (f1q0 i)])) (b1 : (m1 : Int) < 9223372036854775808) (r1q0 : ∀ i, R64 (f1q0 i)) : NdGood Tryz.prog Tryz.f6 8 Tryz.H0 W Zw.p0 Zw.d61 [(.slice a1 m1 c1)] := by
  have ⟨rl0, rh0⟩ := r0
  by_cases q1 : (2 : Int) < (m1 : Int)
  ·
    have l2 : 2 < m1 := by omega
    obtain ⟨p2, v2⟩ := h1.elem l2
    have w2q0 := r1q0 2
    obtain ⟨d3, ⟨y3, e3, z3, u3, w3⟩, g3, o3⟩ := ex_rem (f1q0 2) (5 : Int) (by omega) (by omega)
    obtain ⟨d4, e4, g4, o4⟩ := ex_add d3 (5 : Int)
    obtain ⟨d5, ⟨y5, e5, z5, u5, w5⟩, g5, o5⟩ := ex_rem d4 (5 : Int) (by omega) (by omega)
    rcases (show d5 = 0 ∨ d5 = 1 ∨ d5 = 2 ∨ d5 = 3 ∨ d5 = 4 by omega) with k5 | k5 | k5 | k5 | k5
    ·
      exact Zw.nx Zw.t213 [(.int .i64 (f1q0 2)), (.int .i64 (m1 : Int)), (.int .i64 d3), (.int .i64 d4)] [p2] [(.slice a1 m1 c1)] (Zw.k0 _) ⟨hold_len (.atom _ _ rfl) (.atom _ _ rfl), hold_bool (.int _ _) (.atom _ _ rfl) (op_lss_t q1), hold_idx v2 l2 (.atom _ _ rfl) (.int _ _) (by omega) rfl, hold_op (.atom _ _ rfl) (.int _ _) (o3 .i64) (.atom _ _ rfl), hold_op (.atom _ _ rfl) (.int _ _) o4 (.atom _ _ rfl), hold_op (.atom _ _ rfl) (.int _ _) (by have := (o5 .i64); rw [k5] at this; exact this) (.int _ _), trivial⟩ Zw.i213 rfl rfl (rowsHold_cons (Elem.row v2 (VL.cons (.atom _ _ rfl) VL.nil)) rowsHold_nil) Zw.r213 rfl rfl (Zw.n154 r0 h1 b1 r1q0 )
    ·
      exact Zw.nx Zw.t214 [(.int .i64 (f1q0 2)), (.int .i64 (m1 : Int)), (.int .i64 d3), (.int .i64 d4)] [p2] [(.slice a1 m1 c1)] (Zw.k0 _) ⟨hold_len (.atom _ _ rfl) (.atom _ _ rfl), hold_bool (.int _ _) (.atom _ _ rfl) (op_lss_t q1), hold_idx v2 l2 (.atom _ _ rfl) (.int _ _) (by omega) rfl, hold_op (.atom _ _ rfl) (.int _ _) (o3 .i64) (.atom _ _ rfl), hold_op (.atom _ _ rfl) (.int _ _) o4 (.atom _ _ rfl), hold_op (.atom _ _ rfl) (.int _ _) (by have := (o5 .i64); rw [k5] at this; exact this) (.int _ _), trivial⟩ Zw.i214 rfl rfl (rowsHold_cons (Elem.row v2 (VL.cons (.atom _ _ rfl) VL.nil)) rowsHold_nil) Zw.r214 rfl rfl (Zw.n155 r0 h1 b1 r1q0 )
    ·
      exact Zw.nx Zw.t215 [(.int .i64 (f1q0 2)), (.int .i64 (m1 : Int)), (.int .i64 d3), (.int .i64 d4)] [p2] [(.slice a1 m1 c1)] (Zw.k0 _) ⟨hold_len (.atom _ _ rfl) (.atom _ _ rfl), hold_bool (.int _ _) (.atom _ _ rfl) (op_lss_t q1), hold_idx v2 l2 (.atom _ _ rfl) (.int _ _) (by omega) rfl, hold_op (.atom _ _ rfl) (.int _ _) (o3 .i64) (.atom _ _ rfl), hold_op (.atom _ _ rfl) (.int _ _) o4 (.atom _ _ rfl), hold_op (.atom _ _ rfl) (.int _ _) (by have := (o5 .i64); rw [k5] at this; exact this) (.int _ _), trivial⟩ Zw.i215 rfl rfl (rowsHold_cons (Elem.row v2 (VL.cons (.atom _ _ rfl) VL.nil)) rowsHold_nil) Zw.r215 rfl rfl (Zw.n156 r0 h1 b1 r1q0 )
    ·
      exact Zw.nx Zw.t216 [(.int .i64 (f1q0 2)), (.int .i64 (m1 : Int)), (.int .i64 d3), (.int .i64 d4)] [p2] [(.slice a1 m1 c1)] (Zw.k0 _) ⟨hold_len (.atom _ _ rfl) (.atom _ _ rfl), hold_bool (.int _ _) (.atom _ _ rfl) (op_lss_t q1), hold_idx v2 l2 (.atom _ _ rfl) (.int _ _) (by omega) rfl, hold_op (.atom _ _ rfl) (.int _ _) (o3 .i64) (.atom _ _ rfl), hold_op (.atom _ _ rfl) (.int _ _) o4 (.atom _ _ rfl), hold_op (.atom _ _ rfl) (.int _ _) (by have := (o5 .i64); rw [k5] at this; exact this) (.int _ _), trivial⟩ Zw.i216 rfl rfl (rowsHold_cons (Elem.row v2 (VL.cons (.atom _ _ rfl) VL.nil)) rowsHold_nil) Zw.r216 rfl rfl (Zw.n157 r0 h1 b1 r1q0 )
    ·
      exact Zw.nx Zw.t217 [(.int .i64 (f1q0 2)), (.int .i64 (m1 : Int)), (.int .i64 d3), (.int .i64 d4)] [p2] [(.slice a1 m1 c1)] (Zw.k0 _) ⟨hold_len (.atom _ _ rfl) (.atom _ _ rfl), hold_bool (.int _ _) (.atom _ _ rfl) (op_lss_t q1), hold_idx v2 l2 (.atom _ _ rfl) (.int _ _) (by omega) rfl, hold_op (.atom _ _ rfl) (.int _ _) (o3 .i64) (.atom _ _ rfl), hold_op (.atom _ _ rfl) (.int _ _) o4 (.atom _ _ rfl), hold_op (.atom _ _ rfl) (.int _ _) (by have := (o5 .i64); rw [k5] at this; exact this) (.int _ _), trivial⟩ Zw.i217 rfl rfl (rowsHold_cons (Elem.row v2 (VL.cons (.atom _ _ rfl) VL.nil)) rowsHold_nil) Zw.r217 rfl rfl (Zw.n158 r0 h1 b1 r1q0 )
  ·
    exact Zw.nx Zw.t218 [(.int .i64 (m1 : Int))] [] [(.slice a1 m1 c1)] (Zw.k0 _) ⟨hold_len (.atom _ _ rfl) (.atom _ _ rfl), hold_bool (.int _ _) (.atom _ _ rfl) (op_lss_f (Int.not_lt.1 q1)), trivial⟩ Zw.i218 rfl rfl rowsHold_nil Zw.r218 rfl rfl (Zw.n154 r0 h1 b1 r1q0 )
theorem Zw.n160 {W : World} {n0 : Int} {a1 : Option Addr} {m1 c1 : Nat} {f1q0 : Nat → Int} (r0 : R64 n0) (h1 : SlcOk W a1 m1 c1 1 (fun i => [.int .i64 (f1q0 i)])) (b1 : (m1 : Int) < 9223372036854775808) (r1q0 : ∀ i, R64 (f1q0 i)) : NdGood Tryz.prog Tryz.f6 8 Tryz.H0 W Zw.p0 Zw.d160 [(.slice a1 m1 c1)] := by
  have ⟨rl0, rh0⟩ := r0
  exact Zw.fx Zw.t352 [] [] (Zw.k0 _) trivial Zw.i352 rfl rfl rowsHold_nil Zw.r352
theorem Zw.n161 {W : World} {n0 : Int} {a1 : Option Addr} {m1 c1 : Nat} {f1q0 : Nat → Int} (r0 : R64 n0) (h1 : SlcOk W a1 m1 c1 1 (fun i => [.int .i64 (f1q0 i)])) (b1 : (m1 : Int) < 9223372036854775808) (r1q0 : ∀ i, R64 (f1q0 i)) : NdGood Tryz.prog Tryz.f6 8 Tryz.H0 W Zw.p0 Zw.d161 [(.slice a1 m1 c1)] := by
  have ⟨rl0, rh0⟩ := r0
  exact Zw.fx Zw.t353 [] [] (Zw.k0 _) trivial Zw.i353 rfl rfl rowsHold_nil Zw.r353
theorem Zw.n162 {W : World} {n0 : Int} {a1 : Option Addr} {m1 c1 : Nat} {f1q0 : Nat → Int} (r0 : R64 n0) (h1 : SlcOk W a1 m1 c1 1 (fun i => [.int .i64 (f1q0 i)])) (b1 : (m1 : Int) < 9223372036854775808) (r1q0 : ∀ i, R64 (f1q0 i)) : NdGood Tryz.prog Tryz.f6 8 Tryz.H0 W Zw.p0 Zw.d162 [(.slice a1 m1 c1)] := by
  have ⟨rl0, rh0⟩ := r0
  exact Zw.fx Zw.t354 [] [] (Zw.k0 _) trivial Zw.i354 rfl rfl rowsHold_nil Zw.r354
theorem Zw.n163 {W : World} {n0 : Int} {a1 : Option Addr} {m1 c1 : Nat} {f1q0 : Nat → Int} (r0 : R64 n0) (h1 : SlcOk W a1 m1 c1 1 (fun i => [.int .i64 (f1q0 i)])) (b1 : (m1 : Int) < 9223372036854775808) (r1q0 : ∀ i, R64 (f1q0 i)) : NdGood Tryz.prog Tryz.f6 8 Tryz.H0 W Zw.p0 Zw.d163 [(.slice a1 m1 c1)] := by
  have ⟨rl0, rh0⟩ := r0
  exact Zw.fx Zw.t355 [] [] (Zw.k0 _) trivial Zw.i355 rfl rfl rowsHold_nil Zw.r355
theorem Zw.n159 {W : World} {n0 : Int} {a1 : Option Addr} {m1 c1 : Nat} {f1q0 : Nat → Int} (r0 : R64 n0) (h1 : SlcOk W a1 m1 c1 1 (fun i => [.int .i64 (f1q0 i)])) (b1 : (m1 : Int) < 9223372036854775808) (r1q0 : ∀ i, R64 (f1q0 i)) : NdGood Tryz.prog Tryz.f6 8 Tryz.H0 W Zw.p0 Zw.d159 [(.slice a1 m1 c1)] := by
  have ⟨rl0, rh0⟩ := r0
  exact Zw.fx Zw.t351 [] [] (Zw.k0 _) trivial Zw.i351 rfl rfl rowsHold_nil Zw.r351
theorem Zw.n62 {W : World} {n0 : Int} {a1 : Option Addr} {m1 c1 : Nat} {f1q0 : Nat → Int} (r0 : R64 n0) (h1 : SlcOk W a1 m1 c1 1 (fun i => [.int .i64 (f1q0 i)])) (b1 : (m1 : Int) < 9223372036854775808) (r1q0 : ∀ i, R64 (f1q0 i)) : NdGood Tryz.prog Tryz.f6 8 Tryz.H0 W Zw.p0 Zw.d62 [(.slice a1 m1 c1)] := by
  have ⟨rl0, rh0⟩ := r0
  by_cases q1 : (2 : Int) < (m1 : Int)
  ·
    have l2 : 2 < m1 := by omega
    obtain ⟨p2, v2⟩ := h1.elem l2
    have w2q0 := r1q0 2
    obtain ⟨d3, ⟨y3, e3, z3, u3, w3⟩, g3, o3⟩ := ex_rem (f1q0 2) (5 : Int) (by omega) (by omega)
    obtain ⟨d4, e4, g4, o4⟩ := ex_add d3 (5 : Int)
    obtain ⟨d5, ⟨y5, e5, z5, u5, w5⟩, g5, o5⟩ := ex_rem d4 (5 : Int) (by omega) (by omega)
    rcases (show d5 = 0 ∨ d5 = 1 ∨ d5 = 2 ∨ d5 = 3 ∨ d5 = 4 by omega) with k5 | k5 | k5 | k5 | k5
    ·
      exact Zw.nx Zw.t219 [(.int .i64 (f1q0 2)), (.int .i64 (m1 : Int)), (.int .i64 d3), (.int .i64 d4)] [p2] [(.slice a1 m1 c1)] (Zw.k0 _) ⟨hold_len (.atom _ _ rfl) (.atom _ _ rfl), hold_bool (.int _ _) (.atom _ _ rfl) (op_lss_t q1), hold_idx v2 l2 (.atom _ _ rfl) (.int _ _) (by omega) rfl, hold_op (.atom _ _ rfl) (.int _ _) (o3 .i64) (.atom _ _ rfl), hold_op (.atom _ _ rfl) (.int _ _) o4 (.atom _ _ rfl), hold_op (.atom _ _ rfl) (.int _ _) (by have := (o5 .i64); rw [k5] at this; exact this) (.int _ _), trivial⟩ Zw.i219 rfl rfl (rowsHold_cons (Elem.row v2 (VL.cons (.atom _ _ rfl) VL.nil)) rowsHold_nil) Zw.r219 rfl rfl (Zw.n159 r0 h1 b1 r1q0 )
    ·
      exact Zw.nx Zw.t220 [(.int .i64 (f1q0 2)), (.int .i64 (m1 : Int)), (.int .i64 d3), (.int .i64 d4)] [p2] [(.slice a1 m1 c1)] (Zw.k0 _) ⟨hold_len (.atom _ _ rfl) (.atom _ _ rfl), hold_bool (.int _ _) (.atom _ _ rfl) (op_lss_t q1), hold_idx v2 l2 (.atom _ _ rfl) (.int _ _) (by omega) rfl, hold_op (.atom _ _ rfl) (.int _ _) (o3 .i64) (.atom _ _ rfl), hold_op (.atom _ _ rfl) (.int _ _) o4 (.atom _ _ rfl), hold_op (.atom _ _ rfl) (.int _ _) (by have := (o5 .i64); rw [k5] at this; exact this) (.int _ _), trivial⟩ Zw.i220 rfl rfl (rowsHold_cons (Elem.row v2 (VL.cons (.atom _ _ rfl) VL.nil)) rowsHold_nil) Zw.r220 rfl rfl (Zw.n160 r0 h1 b1 r1q0 )
    ·
      exact Zw.nx Zw.t221 [(.int .i64 (f1q0 2)), (.int .i64 (m1 : Int)), (.int .i64 d3), (.int .i64 d4)] [p2] [(.slice a1 m1 c1)] (Zw.k0 _) ⟨hold_len (.atom _ _ rfl) (.atom _ _ rfl), hold_bool (.int _ _) (.atom _ _ rfl) (op_lss_t q1), hold_idx v2 l2 (.atom _ _ rfl) (.int _ _) (by omega) rfl, hold_op (.atom _ _ rfl) (.int _ _) (o3 .i64) (.atom _ _ rfl), hold_op (.atom _ _ rfl) (.int _ _) o4 (.atom _ _ rfl), hold_op (.atom _ _ rfl) (.int _ _) (by have := (o5 .i64); rw [k5] at this; exact this) (.int _ _), trivial⟩ Zw.i221 rfl rfl (rowsHold_cons (Elem.row v2 (VL.cons (.atom _ _ rfl) VL.nil)) rowsHold_nil) Zw.r221 rfl rfl (Zw.n161 r0 h1 b1 r1q0 )
    ·
      exact Zw.nx Zw.t222 [(.int .i64 (f1q0 2)), (.int .i64 (m1 : Int)), (.int .i64 d3), (.int .i64 d4)] [p2] [(.slice a1 m1 c1)] (Zw.k0 _) ⟨hold_len (.atom _ _ rfl) (.atom _ _ rfl), hold_bool (.int _ _) (.atom _ _ rfl) (op_lss_t q1), hold_idx v2 l2 (.atom _ _ rfl) (.int _ _) (by omega) rfl, hold_op (.atom _ _ rfl) (.int _ _) (o3 .i64) (.atom _ _ rfl), hold_op (.atom _ _ rfl) (.int _ _) o4 (.atom _ _ rfl), hold_op (.atom _ _ rfl) (.int _ _) (by have := (o5 .i64); rw [k5] at this; exact this) (.int _ _), trivial⟩ Zw.i222 rfl rfl (rowsHold_cons (Elem.row v2 (VL.cons (.atom _ _ rfl) VL.nil)) rowsHold_nil) Zw.r222 rfl rfl (Zw.n162 r0 h1 b1 r1q0 )
    ·
      exact Zw.nx Zw.t223 [(.int .i64 (f1q0 2)), (.int .i64 (m1 : Int)), (.int .i64 d3), (.int .i64 d4)] [p2] [(.slice a1 m1 c1)] (Zw.k0 _) ⟨hold_len (.atom _ _ rfl) (.atom _ _ rfl), hold_bool (.int _ _) (.atom _ _ rfl) (op_lss_t q1), hold_idx v2 l2 (.atom _ _ rfl) (.int _ _) (by omega) rfl, hold_op (.atom _ _ rfl) (.int _ _) (o3 .i64) (.atom _ _ rfl), hold_op (.atom _ _ rfl) (.int _ _) o4 (.atom _ _ rfl), hold_op (.atom _ _ rfl) (.int _ _) (by have := (o5 .i64); rw [k5] at this; exact this) (.int _ _), trivial⟩ Zw.i223 rfl rfl (rowsHold_cons (Elem.row v2 (VL.cons (.atom _ _ rfl) VL.nil)) rowsHold_nil) Zw.r223 rfl rfl (Zw.n163 r0 h1 b1 r1q0 )
  ·
    exact Zw.nx Zw.t224 [(.int .i64 (m1 : Int))] [] [(.slice a1 m1 c1)] (Zw.k0 _) ⟨hold_len (.atom _ _ rfl) (.atom _ _ rfl), hold_bool (.int _ _) (.atom _ _ rfl) (op_lss_f (Int.not_lt.1 q1)), trivial⟩ Zw.i224 rfl rfl rowsHold_nil Zw.r224 rfl rfl (Zw.n159 r0 h1 b1 r1q0 )
theorem Zw.n164 {W : World} {n0 : Int} {a1 : Option Addr} {m1 c1 : Nat} {f1q0 : Nat → Int} (r0 : R64 n0) (h1 : SlcOk W a1 m1 c1 1 (fun i => [.int .i64 (f1q0 i)])) (b1 : (m1 : Int) < 9223372036854775808) (r1q0 : ∀ i, R64 (f1q0 i)) : NdGood Tryz.prog Tryz.f6 8 Tryz.H0 W Zw.p0 Zw.d164 [(.slice a1 m1 c1)] := by
  have ⟨rl0, rh0⟩ := r0
  exact Zw.fx Zw.t356 [] [] (Zw.k0 _) trivial Zw.i356 rfl rfl rowsHold_nil Zw.r356
theorem Zw.n165 {W : World} {n0 : Int} {a1 : Option Addr} {m1 c1 : Nat} {f1q0 : Nat → Int} (r0 : R64 n0) (h1 : SlcOk W a1 m1 c1 1 (fun i => [.int .i64 (f1q0 i)])) (b1 : (m1 : Int) < 9223372036854775808) (r1q0 : ∀ i, R64 (f1q0 i)) : NdGood Tryz.prog Tryz.f6 8 Tryz.H0 W Zw.p0 Zw.d165 [(.slice a1 m1 c1)] := by
  have ⟨rl0, rh0⟩ := r0
  exact Zw.fx Zw.t357 [] [] (Zw.k0 _) trivial Zw.i357 rfl rfl rowsHold_nil Zw.r357
theorem Zw.n166 {W : World} {n0 : Int} {a1 : Option Addr} {m1 c1 : Nat} {f1q0 : Nat → Int} (r0 : R64 n0) (h1 : SlcOk W a1 m1 c1 1 (fun i => [.int .i64 (f1q0 i)])) (b1 : (m1 : Int) < 9223372036854775808) (r1q0 : ∀ i, R64 (f1q0 i)) : NdGood Tryz.prog Tryz.f6 8 Tryz.H0 W Zw.p0 Zw.d166 [(.slice a1 m1 c1)] := by
  have ⟨rl0, rh0⟩ := r0
  exact Zw.fx Zw.t358 [] [] (Zw.k0 _) trivial Zw.i358 rfl rfl rowsHold_nil Zw.r358
theorem Zw.n167 {W : World} {n0 : Int} {a1 : Option Addr} {m1 c1 : Nat} {f1q0 : Nat → Int} (r0 : R64 n0) (h1 : SlcOk W a1 m1 c1 1 (fun i => [.int .i64 (f1q0 i)])) (b1 : (m1 : Int) < 9223372036854775808) (r1q0 : ∀ i, R64 (f1q0 i)) : NdGood Tryz.prog Tryz.f6 8 Tryz.H0 W Zw.p0 Zw.d167 [(.slice a1 m1 c1)] := by
  have ⟨rl0, rh0⟩ := r0
  exact Zw.fx Zw.t359 [] [] (Zw.k0 _) trivial Zw.i359 rfl rfl rowsHold_nil Zw.r359
theorem Zw.n168 {W : World} {n0 : Int} {a1 : Option Addr} {m1 c1 : Nat} {f1q0 : Nat → Int} (r0 : R64 n0) (h1 : SlcOk W a1 m1 c1 1 (fun i => [.int .i64 (f1q0 i)])) (b1 : (m1 : Int) < 9223372036854775808) (r1q0 : ∀ i, R64 (f1q0 i)) : NdGood Tryz.prog Tryz.f6 8 Tryz.H0 W Zw.p0 Zw.d168 [(.slice a1 m1 c1)] := by
  have ⟨rl0, rh0⟩ := r0
  exact Zw.fx Zw.t360 [] [] (Zw.k0 _) trivial Zw.i360 rfl rfl rowsHold_nil Zw.r360
theorem Zw.n63 {W : World} {n0 : Int} {a1 : Option Addr} {m1 c1 : Nat} {f1q0 : Nat → Int} (r0 : R64 n0) (h1 : SlcOk W a1 m1 c1 1 (fun i => [.int .i64 (f1q0 i)])) (b1 : (m1 : Int) < 9223372036854775808) (r1q0 : ∀ i, R64 (f1q0 i)) : NdGood Tryz.prog Tryz.f6 8 Tryz.H0 W Zw.p0 Zw.d63 [(.slice a1 m1 c1)] := by
  have ⟨rl0, rh0⟩ := r0
  by_cases q1 : (2 : Int) < (m1 : Int)
  ·
    have l2 : 2 < m1 := by omega
    obtain ⟨p2, v2⟩ := h1.elem l2
    have w2q0 := r1q0 2
    obtain ⟨d3, ⟨y3, e3, z3, u3, w3⟩, g3, o3⟩ := ex_rem (f1q0 2) (5 : Int) (by omega) (by omega)
    obtain ⟨d4, e4, g4, o4⟩ := ex_add d3 (5 : Int)
    obtain ⟨d5, ⟨y5, e5, z5, u5, w5⟩, g5, o5⟩ := ex_rem d4 (5 : Int) (by omega) (by omega)
    rcases (show d5 = 0 ∨ d5 = 1 ∨ d5 = 2 ∨ d5 = 3 ∨ d5 = 4 by omega) with k5 | k5 | k5 | k5 | k5
    ·
      exact Zw.nx Zw.t225 [(.int .i64 (f1q0 2)), (.int .i64 (m1 : Int)), (.int .i64 d3), (.int .i64 d4)] [p2] [(.slice a1 m1 c1)] (Zw.k0 _) ⟨hold_len (.atom _ _ rfl) (.atom _ _ rfl), hold_bool (.int _ _) (.atom _ _ rfl) (op_lss_t q1), hold_idx v2 l2 (.atom _ _ rfl) (.int _ _) (by omega) rfl, hold_op (.atom _ _ rfl) (.int _ _) (o3 .i64) (.atom _ _ rfl), hold_op (.atom _ _ rfl) (.int _ _) o4 (.atom _ _ rfl), hold_op (.atom _ _ rfl) (.int _ _) (by have := (o5 .i64); rw [k5] at this; exact this) (.int _ _), trivial⟩ Zw.i225 rfl rfl (rowsHold_cons (Elem.row v2 (VL.cons (.atom _ _ rfl) VL.nil)) rowsHold_nil) Zw.r225 rfl rfl (Zw.n164 r0 h1 b1 r1q0 )
    ·
      exact Zw.nx Zw.t226 [(.int .i64 (f1q0 2)), (.int .i64 (m1 : Int)), (.int .i64 d3), (.int .i64 d4)] [p2] [(.slice a1 m1 c1)] (Zw.k0 _) ⟨hold_len (.atom _ _ rfl) (.atom _ _ rfl), hold_bool (.int _ _) (.atom _ _ rfl) (op_lss_t q1), hold_idx v2 l2 (.atom _ _ rfl) (.int _ _) (by omega) rfl, hold_op (.atom _ _ rfl) (.int _ _) (o3 .i64) (.atom _ _ rfl), hold_op (.atom _ _ rfl) (.int _ _) o4 (.atom _ _ rfl), hold_op (.atom _ _ rfl) (.int _ _) (by have := (o5 .i64); rw [k5] at this; exact this) (.int _ _), trivial⟩ Zw.i226 rfl rfl (rowsHold_cons (Elem.row v2 (VL.cons (.atom _ _ rfl) VL.nil)) rowsHold_nil) Zw.r226 rfl rfl (Zw.n165 r0 h1 b1 r1q0 )
    ·
      exact Zw.nx Zw.t227 [(.int .i64 (f1q0 2)), (.int .i64 (m1 : Int)), (.int .i64 d3), (.int .i64 d4)] [p2] [(.slice a1 m1 c1)] (Zw.k0 _) ⟨hold_len (.atom _ _ rfl) (.atom _ _ rfl), hold_bool (.int _ _) (.atom _ _ rfl) (op_lss_t q1), hold_idx v2 l2 (.atom _ _ rfl) (.int _ _) (by omega) rfl, hold_op (.atom _ _ rfl) (.int _ _) (o3 .i64) (.atom _ _ rfl), hold_op (.atom _ _ rfl) (.int _ _) o4 (.atom _ _ rfl), hold_op (.atom _ _ rfl) (.int _ _) (by have := (o5 .i64); rw [k5] at this; exact this) (.int _ _), trivial⟩ Zw.i227 rfl rfl (rowsHold_cons (Elem.row v2 (VL.cons (.atom _ _ rfl) VL.nil)) rowsHold_nil) Zw.r227 rfl rfl (Zw.n166 r0 h1 b1 r1q0 )
    ·
      exact Zw.nx Zw.t228 [(.int .i64 (f1q0 2)), (.int .i64 (m1 : Int)), (.int .i64 d3), (.int .i64 d4)] [p2] [(.slice a1 m1 c1)] (Zw.k0 _) ⟨hold_len (.atom _ _ rfl) (.atom _ _ rfl), hold_bool (.int _ _) (.atom _ _ rfl) (op_lss_t q1), hold_idx v2 l2 (.atom _ _ rfl) (.int _ _) (by omega) rfl, hold_op (.atom _ _ rfl) (.int _ _) (o3 .i64) (.atom _ _ rfl), hold_op (.atom _ _ rfl) (.int _ _) o4 (.atom _ _ rfl), hold_op (.atom _ _ rfl) (.int _ _) (by have := (o5 .i64); rw [k5] at this; exact this) (.int _ _), trivial⟩ Zw.i228 rfl rfl (rowsHold_cons (Elem.row v2 (VL.cons (.atom _ _ rfl) VL.nil)) rowsHold_nil) Zw.r228 rfl rfl (Zw.n167 r0 h1 b1 r1q0 )
    ·
      exact Zw.nx Zw.t229 [(.int .i64 (f1q0 2)), (.int .i64 (m1 : Int)), (.int .i64 d3), (.int .i64 d4)] [p2] [(.slice a1 m1 c1)] (Zw.k0 _) ⟨hold_len (.atom _ _ rfl) (.atom _ _ rfl), hold_bool (.int _ _) (.atom _ _ rfl) (op_lss_t q1), hold_idx v2 l2 (.atom _ _ rfl) (.int _ _) (by omega) rfl, hold_op (.atom _ _ rfl) (.int _ _) (o3 .i64) (.atom _ _ rfl), hold_op (.atom _ _ rfl) (.int _ _) o4 (.atom _ _ rfl), hold_op (.atom _ _ rfl) (.int _ _) (by have := (o5 .i64); rw [k5] at this; exact this) (.int _ _), trivial⟩ Zw.i229 rfl rfl (rowsHold_cons (Elem.row v2 (VL.cons (.atom _ _ rfl) VL.nil)) rowsHold_nil) Zw.r229 rfl rfl (Zw.n168 r0 h1 b1 r1q0 )
  ·
    exact Zw.nx Zw.t230 [(.int .i64 (m1 : Int))] [] [(.slice a1 m1 c1)] (Zw.k0 _) ⟨hold_len (.atom _ _ rfl) (.atom _ _ rfl), hold_bool (.int _ _) (.atom _ _ rfl) (op_lss_f (Int.not_lt.1 q1)), trivial⟩ Zw.i230 rfl rfl rowsHold_nil Zw.r230 rfl rfl (Zw.n164 r0 h1 b1 r1q0 )
theorem Zw.n17 {W : World} {n0 : Int} {a1 : Option Addr} {m1 c1 : Nat} {f1q0 : Nat → Int} (r0 : R64 n0) (h1 : SlcOk W a1 m1 c1 1 (fun i => [.int .i64 (f1q0 i)])) (b1 : (m1 : Int) < 9223372036854775808) (r1q0 : ∀ i, R64 (f1q0 i)) : NdGood Tryz.prog Tryz.f6 8 Tryz.H0 W Zw.p0 Zw.d17 [(.slice a1 m1 c1)] := by
  have ⟨rl0, rh0⟩ := r0
  by_cases q1 : (1 : Int) < (m1 : Int)
  ·
    have l2 : 1 < m1 := by omega
    obtain ⟨p2, v2⟩ := h1.elem l2
    have w2q0 := r1q0 1
    obtain ⟨d3, ⟨y3, e3, z3, u3, w3⟩, g3, o3⟩ := ex_rem (f1q0 1) (5 : Int) (by omega) (by omega)
    obtain ⟨d4, e4, g4, o4⟩ := ex_add d3 (5 : Int)
    obtain ⟨d5, ⟨y5, e5, z5, u5, w5⟩, g5, o5⟩ := ex_rem d4 (5 : Int) (by omega) (by omega)
    rcases (show d5 = 0 ∨ d5 = 1 ∨ d5 = 2 ∨ d5 = 3 ∨ d5 = 4 by omega) with k5 | k5 | k5 | k5 | k5
    ·
      exact Zw.nx Zw.t74 [(.int .i64 (f1q0 1)), (.int .i64 (m1 : Int)), (.int .i64 d3), (.int .i64 d4)] [p2] [(.slice a1 m1 c1)] (Zw.k0 _) ⟨hold_len (.atom _ _ rfl) (.atom _ _ rfl), hold_bool (.int _ _) (.atom _ _ rfl) (op_lss_t q1), hold_idx v2 l2 (.atom _ _ rfl) (.int _ _) (by omega) rfl, hold_op (.atom _ _ rfl) (.int _ _) (o3 .i64) (.atom _ _ rfl), hold_op (.atom _ _ rfl) (.int _ _) o4 (.atom _ _ rfl), hold_op (.atom _ _ rfl) (.int _ _) (by have := (o5 .i64); rw [k5] at this; exact this) (.int _ _), trivial⟩ Zw.i74 rfl rfl (rowsHold_cons (Elem.row v2 (VL.cons (.atom _ _ rfl) VL.nil)) rowsHold_nil) Zw.r74 rfl rfl (Zw.n59 r0 h1 b1 r1q0 )
    ·
      exact Zw.nx Zw.t75 [(.int .i64 (f1q0 1)), (.int .i64 (m1 : Int)), (.int .i64 d3), (.int .i64 d4)] [p2] [(.slice a1 m1 c1)] (Zw.k0 _) ⟨hold_len (.atom _ _ rfl) (.atom _ _ rfl), hold_bool (.int _ _) (.atom _ _ rfl) (op_lss_t q1), hold_idx v2 l2 (.atom _ _ rfl) (.int _ _) (by omega) rfl, hold_op (.atom _ _ rfl) (.int _ _) (o3 .i64) (.atom _ _ rfl), hold_op (.atom _ _ rfl) (.int _ _) o4 (.atom _ _ rfl), hold_op (.atom _ _ rfl) (.int _ _) (by have := (o5 .i64); rw [k5] at this; exact this) (.int _ _), trivial⟩ Zw.i75 rfl rfl (rowsHold_cons (Elem.row v2 (VL.cons (.atom _ _ rfl) VL.nil)) rowsHold_nil) Zw.r75 rfl rfl (Zw.n60 r0 h1 b1 r1q0 )
    ·
      exact Zw.nx Zw.t76 [(.int .i64 (f1q0 1)), (.int .i64 (m1 : Int)), (.int .i64 d3), (.int .i64 d4)] [p2] [(.slice a1 m1 c1)] (Zw.k0 _) ⟨hold_len (.atom _ _ rfl) (.atom _ _ rfl), hold_bool (.int _ _) (.atom _ _ rfl) (op_lss_t q1), hold_idx v2 l2 (.atom _ _ rfl) (.int _ _) (by omega) rfl, hold_op (.atom _ _ rfl) (.int _ _) (o3 .i64) (.atom _ _ rfl), hold_op (.atom _ _ rfl) (.int _ _) o4 (.atom _ _ rfl), hold_op (.atom _ _ rfl) (.int _ _) (by have := (o5 .i64); rw [k5] at this; exact this) (.int _ _), trivial⟩ Zw.i76 rfl rfl (rowsHold_cons (Elem.row v2 (VL.cons (.atom _ _ rfl) VL.nil)) rowsHold_nil) Zw.r76 rfl rfl (Zw.n61 r0 h1 b1 r1q0 )
    ·
      exact Zw.nx Zw.t77 [(.int .i64 (f1q0 1)), (.int .i64 (m1 : Int)), (.int .i64 d3), (.int .i64 d4)] [p2] [(.slice a1 m1 c1)] (Zw.k0 _) ⟨hold_len (.atom _ _ rfl) (.atom _ _ rfl), hold_bool (.int _ _) (.atom _ _ rfl) (op_lss_t q1), hold_idx v2 l2 (.atom _ _ rfl) (.int _ _) (by omega) rfl, hold_op (.atom _ _ rfl) (.int _ _) (o3 .i64) (.atom _ _ rfl), hold_op (.atom _ _ rfl) (.int _ _) o4 (.atom _ _ rfl), hold_op (.atom _ _ rfl) (.int _ _) (by have := (o5 .i64); rw [k5] at this; exact this) (.int _ _), trivial⟩ Zw.i77 rfl rfl (rowsHold_cons (Elem.row v2 (VL.cons (.atom _ _ rfl) VL.nil)) rowsHold_nil) Zw.r77 rfl rfl (Zw.n62 r0 h1 b1 r1q0 )
    ·
      exact Zw.nx Zw.t78 [(.int .i64 (f1q0 1)), (.int .i64 (m1 : Int)), (.int .i64 d3), (.int .i64 d4)] [p2] [(.slice a1 m1 c1)] (Zw.k0 _) ⟨hold_len (.atom _ _ rfl) (.atom _ _ rfl), hold_bool (.int _ _) (.atom _ _ rfl) (op_lss_t q1), hold_idx v2 l2 (.atom _ _ rfl) (.int _ _) (by omega) rfl, hold_op (.atom _ _ rfl) (.int _ _) (o3 .i64) (.atom _ _ rfl), hold_op (.atom _ _ rfl) (.int _ _) o4 (.atom _ _ rfl), hold_op (.atom _ _ rfl) (.int _ _) (by have := (o5 .i64); rw [k5] at this; exact this) (.int _ _), trivial⟩ Zw.i78 rfl rfl (rowsHold_cons (Elem.row v2 (VL.cons (.atom _ _ rfl) VL.nil)) rowsHold_nil) Zw.r78 rfl rfl (Zw.n63 r0 h1 b1 r1q0 )
  ·
    exact Zw.nx Zw.t79 [(.int .i64 (m1 : Int))] [] [(.slice a1 m1 c1)] (Zw.k0 _) ⟨hold_len (.atom _ _ rfl) (.atom _ _ rfl), hold_bool (.int _ _) (.atom _ _ rfl) (op_lss_f (Int.not_lt.1 q1)), trivial⟩ Zw.i79 rfl rfl rowsHold_nil Zw.r79 rfl rfl (Zw.n59 r0 h1 b1 r1q0 )
theorem Zw.n169 {W : World} {n0 : Int} {a1 : Option Addr} {m1 c1 : Nat} {f1q0 : Nat → Int} (r0 : R64 n0) (h1 : SlcOk W a1 m1 c1 1 (fun i => [.int .i64 (f1q0 i)])) (b1 : (m1 : Int) < 9223372036854775808) (r1q0 : ∀ i, R64 (f1q0 i)) : NdGood Tryz.prog Tryz.f6 8 Tryz.H0 W Zw.p0 Zw.d169 [(.slice a1 m1 c1)] := by
  have ⟨rl0, rh0⟩ := r0
  exact Zw.fx Zw.t361 [] [] (Zw.k0 _) trivial Zw.i361 rfl rfl rowsHold_nil Zw.r361
theorem Zw.n170 {W : World} {n0 : Int} {a1 : Option Addr} {m1 c1 : Nat} {f1q0 : Nat → Int} (r0 : R64 n0) (h1 : SlcOk W a1 m1 c1 1 (fun i => [.int .i64 (f1q0 i)])) (b1 : (m1 : Int) < 9223372036854775808) (r1q0 : ∀ i, R64 (f1q0 i)) : NdGood Tryz.prog Tryz.f6 8 Tryz.H0 W Zw.p0 Zw.d170 [(.slice a1 m1 c1)] := by
  have ⟨rl0, rh0⟩ := r0
  exact Zw.fx Zw.t362 [] [] (Zw.k0 _) trivial Zw.i362 rfl rfl rowsHold_nil Zw.r362
theorem Zw.n171 {W : World} {n0 : Int} {a1 : Option Addr} {m1 c1 : Nat} {f1q0 : Nat → Int} (r0 : R64 n0) (h1 : SlcOk W a1 m1 c1 1 (fun i => [.int .i64 (f1q0 i)])) (b1 : (m1 : Int) < 9223372036854775808) (r1q0 : ∀ i, R64 (f1q0 i)) : NdGood Tryz.prog Tryz.f6 8 Tryz.H0 W Zw.p0 Zw.d171 [(.slice a1 m1 c1)] := by
  have ⟨rl0, rh0⟩ := r0
  exact Zw.fx Zw.t363 [] [] (Zw.k0 _) trivial Zw.i363 rfl rfl rowsHold_nil Zw.r363
theorem Zw.n172 {W : World} {n0 : Int} {a1 : Option Addr} {m1 c1 : Nat} {f1q0 : Nat → Int} (r0 : R64 n0) (h1 : SlcOk W a1 m1 c1 1 (fun i => [.int .i64 (f1q0 i)])) (b1 : (m1 : Int) < 9223372036854775808) (r1q0 : ∀ i, R64 (f1q0 i)) : NdGood Tryz.prog Tryz.f6 8 Tryz.H0 W Zw.p0 Zw.d172 [(.slice a1 m1 c1)] := by
  have ⟨rl0, rh0⟩ := r0
  exact Zw.fx Zw.t364 [] [] (Zw.k0 _) trivial Zw.i364 rfl rfl rowsHold_nil Zw.r364
theorem Zw.n173 {W : World} {n0 : Int} {a1 : Option Addr} {m1 c1 : Nat} {f1q0 : Nat → Int} (r0 : R64 n0) (h1 : SlcOk W a1 m1 c1 1 (fun i => [.int .i64 (f1q0 i)])) (b1 : (m1 : Int) < 9223372036854775808) (r1q0 : ∀ i, R64 (f1q0 i)) : NdGood Tryz.prog Tryz.f6 8 Tryz.H0 W Zw.p0 Zw.d173 [(.slice a1 m1 c1)] := by
  have ⟨rl0, rh0⟩ := r0
  exact Zw.fx Zw.t365 [] [] (Zw.k0 _) trivial Zw.i365 rfl rfl rowsHold_nil Zw.r365
theorem Zw.n64 {W : World} {n0 : Int} {a1 : Option Addr} {m1 c1 : Nat} {f1q0 : Nat → Int} (r0 : R64 n0) (h1 : SlcOk W a1 m1 c1 1 (fun i => [.int .i64 (f1q0 i)])) (b1 : (m1 : Int) < 9223372036854775808) (r1q0 : ∀ i, R64 (f1q0 i)) : NdGood Tryz.prog Tryz.f6 8 Tryz.H0 W Zw.p0 Zw.d64 [(.slice a1 m1 c1)] := by
  have ⟨rl0, rh0⟩ := r0
  by_cases q1 : (2 : Int) < (m1 : Int)
  ·
    have l2 : 2 < m1 := by omega
    obtain ⟨p2, v2⟩ := h1.elem l2
    have w2q0 := r1q0 2
    obtain ⟨d3, ⟨y3, e3, z3, u3, w3⟩, g3, o3⟩ := ex_rem (f1q0 2) (5 : Int) (by omega) (by omega)
    obtain ⟨d4, e4, g4, o4⟩ := ex_add d3 (5 : Int)
    obtain ⟨d5, ⟨y5, e5, z5, u5, w5⟩, g5, o5⟩ := ex_rem d4 (5 : Int) (by omega) (by omega)
    rcases (show d5 = 0 ∨ d5 = 1 ∨ d5 = 2 ∨ d5 = 3 ∨ d5 = 4 by omega) with k5 | k5 | k5 | k5 | k5
    ·
      exact Zw.nx Zw.t231 [(.int .i64 (f1q0 2)), (.int .i64 (m1 : Int)), (.int .i64 d3), (.int .i64 d4)] [p2] [(.slice a1 m1 c1)] (Zw.k0 _) ⟨hold_len (.atom _ _ rfl) (.atom _ _ rfl), hold_bool (.int _ _) (.atom _ _ rfl) (op_lss_t q1), hold_idx v2 l2 (.atom _ _ rfl) (.int _ _) (by omega) rfl, hold_op (.atom _ _ rfl) (.int _ _) (o3 .i64) (.atom _ _ rfl), hold_op (.atom _ _ rfl) (.int _ _) o4 (.atom _ _ rfl), hold_op (.atom _ _ rfl) (.int _ _) (by have := (o5 .i64); rw [k5] at this; exact this) (.int _ _), trivial⟩ Zw.i231 rfl rfl (rowsHold_cons (Elem.row v2 (VL.cons (.atom _ _ rfl) VL.nil)) rowsHold_nil) Zw.r231 rfl rfl (Zw.n169 r0 h1 b1 r1q0 )
    ·
      exact Zw.nx Zw.t232 [(.int .i64 (f1q0 2)), (.int .i64 (m1 : Int)), (.int .i64 d3), (.int .i64 d4)] [p2] [(.slice a1 m1 c1)] (Zw.k0 _) ⟨hold_len (.atom _ _ rfl) (.atom _ _ rfl), hold_bool (.int _ _) (.atom _ _ rfl) (op_lss_t q1), hold_idx v2 l2 (.atom _ _ rfl) (.int _ _) (by omega) rfl, hold_op (.atom _ _ rfl) (.int _ _) (o3 .i64) (.atom _ _ rfl), hold_op (.atom _ _ rfl) (.int _ _) o4 (.atom _ _ rfl), hold_op (.atom _ _ rfl) (.int _ _) (by have := (o5 .i64); rw [k5] at this; exact this) (.int _ _), trivial⟩ Zw.i232 rfl rfl (rowsHold_cons (Elem.row v2 (VL.cons (.atom _ _ rfl) VL.nil)) rowsHold_nil) Zw.r232 rfl rfl (Zw.n170 r0 h1 b1 r1q0 )
    ·
      exact Zw.nx Zw.t233 [(.int .i64 (f1q0 2)), (.int .i64 (m1 : Int)), (.int .i64 d3), (.int .i64 d4)] [p2] [(.slice a1 m1 c1)] (Zw.k0 _) ⟨hold_len (.atom _ _ rfl) (.atom _ _ rfl), hold_bool (.int _ _) (.atom _ _ rfl) (op_lss_t q1), hold_idx v2 l2 (.atom _ _ rfl) (.int _ _) (by omega) rfl, hold_op (.atom _ _ rfl) (.int _ _) (o3 .i64) (.atom _ _ rfl), hold_op (.atom _ _ rfl) (.int _ _) o4 (.atom _ _ rfl), hold_op (.atom _ _ rfl) (.int _ _) (by have := (o5 .i64); rw [k5] at this; exact this) (.int _ _), trivial⟩ Zw.i233 rfl rfl (rowsHold_cons (Elem.row v2 (VL.cons (.atom _ _ rfl) VL.nil)) rowsHold_nil) Zw.r233 rfl rfl (Zw.n171 r0 h1 b1 r1q0 )
    ·
      exact Zw.nx Zw.t234 [(.int .i64 (f1q0 2)), (.int .i64 (m1 : Int)), (.int .i64 d3), (.int .i64 d4)] [p2] [(.slice a1 m1 c1)] (Zw.k0 _) ⟨hold_len (.atom _ _ rfl) (.atom _ _ rfl), hold_bool (.int _ _) (.atom _ _ rfl) (op_lss_t q1), hold_idx v2 l2 (.atom _ _ rfl) (.int _ _) (by omega) rfl, hold_op (.atom _ _ rfl) (.int _ _) (o3 .i64) (.atom _ _ rfl), hold_op (.atom _ _ rfl) (.int _ _) o4 (.atom _ _ rfl), hold_op (.atom _ _ rfl) (.int _ _) (by have := (o5 .i64); rw [k5] at this; exact this) (.int _ _), trivial⟩ Zw.i234 rfl rfl (rowsHold_cons (Elem.row v2 (VL.cons (.atom _ _ rfl) VL.nil)) rowsHold_nil) Zw.r234 rfl rfl (Zw.n172 r0 h1 b1 r1q0 )
    ·
      exact Zw.nx Zw.t235 [(.int .i64 (f1q0 2)), (.int .i64 (m1 : Int)), (.int .i64 d3), (.int .i64 d4)] [p2] [(.slice a1 m1 c1)] (Zw.k0 _) ⟨hold_len (.atom _ _ rfl) (.atom _ _ rfl), hold_bool (.int _ _) (.atom _ _ rfl) (op_lss_t q1), hold_idx v2 l2 (.atom _ _ rfl) (.int _ _) (by omega) rfl, hold_op (.atom _ _ rfl) (.int _ _) (o3 .i64) (.atom _ _ rfl), hold_op (.atom _ _ rfl) (.int _ _) o4 (.atom _ _ rfl), hold_op (.atom _ _ rfl) (.int _ _) (by have := (o5 .i64); rw [k5] at this; exact this) (.int _ _), trivial⟩ Zw.i235 rfl rfl (rowsHold_cons (Elem.row v2 (VL.cons (.atom _ _ rfl) VL.nil)) rowsHold_nil) Zw.r235 rfl rfl (Zw.n173 r0 h1 b1 r1q0 )
  ·
    exact Zw.nx Zw.t236 [(.int .i64 (m1 : Int))] [] [(.slice a1 m1 c1)] (Zw.k0 _) ⟨hold_len (.atom _ _ rfl) (.atom _ _ rfl), hold_bool (.int _ _) (.atom _ _ rfl) (op_lss_f (Int.not_lt.1 q1)), trivial⟩ Zw.i236 rfl rfl rowsHold_nil Zw.r236 rfl rfl (Zw.n169 r0 h1 b1 r1q0 )
theorem Zw.n174 {W : World} {n0 : Int} {a1 : Option Addr} {m1 c1 : Nat} {f1q0 : Nat → Int} (r0 : R64 n0) (h1 : SlcOk W a1 m1 c1 1 (fun i => [.int .i64 (f1q0 i)])) (b1 : (m1 : Int) < 9223372036854775808) (r1q0 : ∀ i, R64 (f1q0 i)) : NdGood Tryz.prog Tryz.f6 8 Tryz.H0 W Zw.p0 Zw.d174 [(.slice a1 m1 c1)] := by
  have ⟨rl0, rh0⟩ := r0
  exact Zw.fx Zw.t366 [] [] (Zw.k0 _) trivial Zw.i366 rfl rfl rowsHold_nil Zw.r366
theorem Zw.n175 {W : World} {n0 : Int} {a1 : Option Addr} {m1 c1 : Nat} {f1q0 : Nat → Int} (r0 : R64 n0) (h1 : SlcOk W a1 m1 c1 1 (fun i => [.int .i64 (f1q0 i)])) (b1 : (m1 : Int) < 9223372036854775808) (r1q0 : ∀ i, R64 (f1q0 i)) : NdGood Tryz.prog Tryz.f6 8 Tryz.H0 W Zw.p0 Zw.d175 [(.slice a1 m1 c1)] := by
  have ⟨rl0, rh0⟩ := r0
  exact Zw.fx Zw.t367 [] [] (Zw.k0 _) trivial Zw.i367 rfl rfl rowsHold_nil Zw.r367
theorem Zw.n176 {W : World} {n0 : Int} {a1 : Option Addr} {m1 c1 : Nat} {f1q0 : Nat → Int} (r0 : R64 n0) (h1 : SlcOk W a1 m1 c1 1 (fun i => [.int .i64 (f1q0 i)])) (b1 : (m1 : Int) < 9223372036854775808) (r1q0 : ∀ i, R64 (f1q0 i)) : NdGood Tryz.prog Tryz.f6 8 Tryz.H0 W Zw.p0 Zw.d176 [(.slice a1 m1 c1)] := by
  have ⟨rl0, rh0⟩ := r0
  exact Zw.fx Zw.t368 [] [] (Zw.k0 _) trivial Zw.i368 rfl rfl rowsHold_nil Zw.r368
theorem Zw.n177 {W : World} {n0 : Int} {a1 : Option Addr} {m1 c1 : Nat} {f1q0 : Nat → Int} (r0 : R64 n0) (h1 : SlcOk W a1 m1 c1 1 (fun i => [.int .i64 (f1q0 i)])) (b1 : (m1 : Int) < 9223372036854775808) (r1q0 : ∀ i, R64 (f1q0 i)) : NdGood Tryz.prog Tryz.f6 8 Tryz.H0 W Zw.p0 Zw.d177 [(.slice a1 m1 c1)] := by
  have ⟨rl0, rh0⟩ := r0
  exact Zw.fx Zw.t369 [] [] (Zw.k0 _) trivial Zw.i369 rfl rfl rowsHold_nil Zw.r369
theorem Zw.n178 {W : World} {n0 : Int} {a1 : Option Addr} {m1 c1 : Nat} {f1q0 : Nat → Int} (r0 : R64 n0) (h1 : SlcOk W a1 m1 c1 1 (fun i => [.int .i64 (f1q0 i)])) (b1 : (m1 : Int) < 9223372036854775808) (r1q0 : ∀ i, R64 (f1q0 i)) : NdGood Tryz.prog Tryz.f6 8 Tryz.H0 W Zw.p0 Zw.d178 [(.slice a1 m1 c1)] := by
  have ⟨rl0, rh0⟩ := r0
  exact Zw.fx Zw.t370 [] [] (Zw.k0 _) trivial Zw.i370 rfl rfl rowsHold_nil Zw.r370
theorem Zw.n65 {W : World} {n0 : Int} {a1 : Option Addr} {m1 c1 : Nat} {f1q0 : Nat → Int} (r0 : R64 n0) (h1 : SlcOk W a1 m1 c1 1 (fun i => [.int .i64 (f1q0 i)])) (b1 : (m1 : Int) < 9223372036854775808) (r1q0 : ∀ i, R64 (f1q0 i)) : NdGood Tryz.prog Tryz.f6 8 Tryz.H0 W Zw.p0 Zw.d65 [(.slice a1 m1 c1)] := by
  have ⟨rl0, rh0⟩ := r0
  by_cases q1 : (2 : Int) < (m1 : Int)
  ·
    have l2 : 2 < m1 := by omega
    obtain ⟨p2, v2⟩ := h1.elem l2
    have w2q0 := r1q0 2
    obtain ⟨d3, ⟨y3, e3, z3, u3, w3⟩, g3, o3⟩ := ex_rem (f1q0 2) (5 : Int) (by omega) (by omega)
    obtain ⟨d4, e4, g4, o4⟩ := ex_add d3 (5 : Int)
    obtain ⟨d5, ⟨y5, e5, z5, u5, w5⟩, g5, o5⟩ := ex_rem d4 (5 : Int) (by omega) (by omega)
    rcases (show d5 = 0 ∨ d5 = 1 ∨ d5 = 2 ∨ d5 = 3 ∨ d5 = 4 by omega) with k5 | k5 | k5 | k5 | k5
    ·
      exact Zw.nx Zw.t237 [(.int .i64 (f1q0 2)), (.int .i64 (m1 : Int)), (.int .i64 d3), (.int .i64 d4)] [p2] [(.slice a1 m1 c1)] (Zw.k0 _) ⟨hold_len (.atom _ _ rfl) (.atom _ _ rfl), hold_bool (.int _ _) (.atom _ _ rfl) (op_lss_t q1), hold_idx v2 l2 (.atom _ _ rfl) (.int _ _) (by omega) rfl, hold_op (.atom _ _ rfl) (.int _ _) (o3 .i64) (.atom _ _ rfl), hold_op (.atom _ _ rfl) (.int _ _) o4 (.atom _ _ rfl), hold_op (.atom _ _ rfl) (.int _ _) (by have := (o5 .i64); rw [k5] at this; exact this) (.int _ _), trivial⟩ Zw.i237 rfl rfl (rowsHold_cons (Elem.row v2 (VL.cons (.atom _ _ rfl) VL.nil)) rowsHold_nil) Zw.r237 rfl rfl (Zw.n174 r0 h1 b1 r1q0 )
    ·
      exact Zw.nx Zw.t238 [(.int .i64 (f1q0 2)), (.int .i64 (m1 : Int)), (.int .i64 d3), (.int .i64 d4)] [p2] [(.slice a1 m1 c1)] (Zw.k0 _) ⟨hold_len (.atom _ _ rfl) (.atom _ _ rfl), hold_bool (.int _ _) (.atom _ _ rfl) (op_lss_t q1), hold_idx v2 l2 (.atom _ _ rfl) (.int _ _) (by omega) rfl, hold_op (.atom _ _ rfl) (.int _ _) (o3 .i64) (.atom _ _ rfl), hold_op (.atom _ _ rfl) (.int _ _) o4 (.atom _ _ rfl), hold_op (.atom _ _ rfl) (.int _ _) (by have := (o5 .i64); rw [k5] at this; exact this) (.int _ _), trivial⟩ Zw.i238 rfl rfl (rowsHold_cons (Elem.row v2 (VL.cons (.atom _ _ rfl) VL.nil)) rowsHold_nil) Zw.r238 rfl rfl (Zw.n175 r0 h1 b1 r1q0 )
    ·
      exact Zw.nx Zw.t239 [(.int .i64 (f1q0 2)), (.int .i64 (m1 : Int)), (.int .i64 d3), (.int .i64 d4)] [p2] [(.slice a1 m1 c1)] (Zw.k0 _) ⟨hold_len (.atom _ _ rfl) (.atom _ _ rfl), hold_bool (.int _ _) (.atom _ _ rfl) (op_lss_t q1), hold_idx v2 l2 (.atom _ _ rfl) (.int _ _) (by omega) rfl, hold_op (.atom _ _ rfl) (.int _ _) (o3 .i64) (.atom _ _ rfl), hold_op (.atom _ _ rfl) (.int _ _) o4 (.atom _ _ rfl), hold_op (.atom _ _ rfl) (.int _ _) (by have := (o5 .i64); rw [k5] at this; exact this) (.int _ _), trivial⟩ Zw.i239 rfl rfl (rowsHold_cons (Elem.row v2 (VL.cons (.atom _ _ rfl) VL.nil)) rowsHold_nil) Zw.r239 rfl rfl (Zw.n176 r0 h1 b1 r1q0 )
    ·
      exact Zw.nx Zw.t240 [(.int .i64 (f1q0 2)), (.int .i64 (m1 : Int)), (.int .i64 d3), (.int .i64 d4)] [p2] [(.slice a1 m1 c1)] (Zw.k0 _) ⟨hold_len (.atom _ _ rfl) (.atom _ _ rfl), hold_bool (.int _ _) (.atom _ _ rfl) (op_lss_t q1), hold_idx v2 l2 (.atom _ _ rfl) (.int _ _) (by omega) rfl, hold_op (.atom _ _ rfl) (.int _ _) (o3 .i64) (.atom _ _ rfl), hold_op (.atom _ _ rfl) (.int _ _) o4 (.atom _ _ rfl), hold_op (.atom _ _ rfl) (.int _ _) (by have := (o5 .i64); rw [k5] at this; exact this) (.int _ _), trivial⟩ Zw.i240 rfl rfl (rowsHold_cons (Elem.row v2 (VL.cons (.atom _ _ rfl) VL.nil)) rowsHold_nil) Zw.r240 rfl rfl (Zw.n177 r0 h1 b1 r1q0 )
    ·
      exact Zw.nx Zw.t241 [(.int .i64 (f1q0 2)), (.int .i64 (m1 : Int)), (.int .i64 d3), (.int .i64 d4)] [p2] [(.slice a1 m1 c1)] (Zw.k0 _) ⟨hold_len (.atom _ _ rfl) (.atom _ _ rfl), hold_bool (.int _ _) (.atom _ _ rfl) (op_lss_t q1), hold_idx v2 l2 (.atom _ _ rfl) (.int _ _) (by omega) rfl, hold_op (.atom _ _ rfl) (.int _ _) (o3 .i64) (.atom _ _ rfl), hold_op (.atom _ _ rfl) (.int _ _) o4 (.atom _ _ rfl), hold_op (.atom _ _ rfl) (.int _ _) (by have := (o5 .i64); rw [k5] at this; exact this) (.int _ _), trivial⟩ Zw.i241 rfl rfl (rowsHold_cons (Elem.row v2 (VL.cons (.atom _ _ rfl) VL.nil)) rowsHold_nil) Zw.r241 rfl rfl (Zw.n178 r0 h1 b1 r1q0 )
  ·
    exact Zw.nx Zw.t242 [(.int .i64 (m1 : Int))] [] [(.slice a1 m1 c1)] (Zw.k0 _) ⟨hold_len (.atom _ _ rfl) (.atom _ _ rfl), hold_bool (.int _ _) (.atom _ _ rfl) (op_lss_f (Int.not_lt.1 q1)), trivial⟩ Zw.i242 rfl rfl rowsHold_nil Zw.r242 rfl rfl (Zw.n174 r0 h1 b1 r1q0 )
theorem Zw.n179 {W : World} {n0 : Int} {a1 : Option Addr} {m1 c1 : Nat} {f1q0 : Nat → Int} (r0 : R64 n0) (h1 : SlcOk W a1 m1 c1 1 (fun i => [.int .i64 (f1q0 i)])) (b1 : (m1 : Int) < 9223372036854775808) (r1q0 : ∀ i, R64 (f1q0 i)) : NdGood Tryz.prog Tryz.f6 8 Tryz.H0 W Zw.p0 Zw.d179 [(.slice a1 m1 c1)] := by
  have ⟨rl0, rh0⟩ := r0
  exact Zw.fx Zw.t371 [] [] (Zw.k0 _) trivial Zw.i371 rfl rfl rowsHold_nil Zw.r371
theorem Zw.n180 {W : World} {n0 : Int} {a1 : Option Addr} {m1 c1 : Nat} {f1q0 : Nat → Int} (r0 : R64 n0) (h1 : SlcOk W a1 m1 c1 1 (fun i => [.int .i64 (f1q0 i)])) (b1 : (m1 : Int) < 9223372036854775808) (r1q0 : ∀ i, R64 (f1q0 i)) : NdGood Tryz.prog Tryz.f6 8 Tryz.H0 W Zw.p0 Zw.d180 [(.slice a1 m1 c1)] := by
  have ⟨rl0, rh0⟩ := r0
  exact Zw.fx Zw.t372 [] [] (Zw.k0 _) trivial Zw.i372 rfl rfl rowsHold_nil Zw.r372
theorem Zw.n181 {W : World} {n0 : Int} {a1 : Option Addr} {m1 c1 : Nat} {f1q0 : Nat → Int} (r0 : R64 n0) (h1 : SlcOk W a1 m1 c1 1 (fun i => [.int .i64 (f1q0 i)])) (b1 : (m1 : Int) < 9223372036854775808) (r1q0 : ∀ i, R64 (f1q0 i)) : NdGood Tryz.prog Tryz.f6 8 Tryz.H0 W Zw.p0 Zw.d181 [(.slice a1 m1 c1)] := by
  have ⟨rl0, rh0⟩ := r0
  exact Zw.fx Zw.t373 [] [] (Zw.k0 _) trivial Zw.i373 rfl rfl rowsHold_nil Zw.r373
theorem Zw.n182 {W : World} {n0 : Int} {a1 : Option Addr} {m1 c1 : Nat} {f1q0 : Nat → Int} (r0 : R64 n0) (h1 : SlcOk W a1 m1 c1 1 (fun i => [.int .i64 (f1q0 i)])) (b1 : (m1 : Int) < 9223372036854775808) (r1q0 : ∀ i, R64 (f1q0 i)) : NdGood Tryz.prog Tryz.f6 8 Tryz.H0 W Zw.p0 Zw.d182 [(.slice a1 m1 c1)] := by
  have ⟨rl0, rh0⟩ := r0
  exact Zw.fx Zw.t374 [] [] (Zw.k0 _) trivial Zw.i374 rfl rfl rowsHold_nil Zw.r374
theorem Zw.n183 {W : World} {n0 : Int} {a1 : Option Addr} {m1 c1 : Nat} {f1q0 : Nat → Int} (r0 : R64 n0) (h1 : SlcOk W a1 m1 c1 1 (fun i => [.int .i64 (f1q0 i)])) (b1 : (m1 : Int) < 9223372036854775808) (r1q0 : ∀ i, R64 (f1q0 i)) : NdGood Tryz.prog Tryz.f6 8 Tryz.H0 W Zw.p0 Zw.d183 [(.slice a1 m1 c1)] := by
  have ⟨rl0, rh0⟩ := r0
  exact Zw.fx Zw.t375 [] [] (Zw.k0 _) trivial Zw.i375 rfl rfl rowsHold_nil Zw.r375
theorem Zw.n66 {W : World} {n0 : Int} {a1 : Option Addr} {m1 c1 : Nat} {f1q0 : Nat → Int} (r0 : R64 n0) (h1 : SlcOk W a1 m1 c1 1 (fun i => [.int .i64 (f1q0 i)])) (b1 : (m1 : Int) < 9223372036854775808) (r1q0 : ∀ i, R64 (f1q0 i)) : NdGood Tryz.prog Tryz.f6 8 Tryz.H0 W Zw.p0 Zw.d66 [(.slice a1 m1 c1)] := by
  have ⟨rl0, rh0⟩ := r0
  by_cases q1 : (2 : Int) < (m1 : Int)
  ·
    have l2 : 2 < m1 := by omega
    obtain ⟨p2, v2⟩ := h1.elem l2
    have w2q0 := r1q0 2
    obtain ⟨d3, ⟨y3, e3, z3, u3, w3⟩, g3, o3⟩ := ex_rem (f1q0 2) (5 : Int) (by omega) (by omega)
    obtain ⟨d4, e4, g4, o4⟩ := ex_add d3 (5 : Int)
    obtain ⟨d5, ⟨y5, e5, z5, u5, w5⟩, g5, o5⟩ := ex_rem d4 (5 : Int) (by omega) (by omega)
    rcases (show d5 = 0 ∨ d5 = 1 ∨ d5 = 2 ∨ d5 = 3 ∨ d5 = 4 by omega) with k5 | k5 | k5 | k5 | k5
    ·
      exact Zw.nx Zw.t243 [(.int .i64 (f1q0 2)), (.int .i64 (m1 : Int)), (.int .i64 d3), (.int .i64 d4)] [p2] [(.slice a1 m1 c1)] (Zw.k0 _) ⟨hold_len (.atom _ _ rfl) (.atom _ _ rfl), hold_bool (.int _ _) (.atom _ _ rfl) (op_lss_t q1), hold_idx v2 l2 (.atom _ _ rfl) (.int _ _) (by omega) rfl, hold_op (.atom _ _ rfl) (.int _ _) (o3 .i64) (.atom _ _ rfl), hold_op (.atom _ _ rfl) (.int _ _) o4 (.atom _ _ rfl), hold_op (.atom _ _ rfl) (.int _ _) (by have := (o5 .i64); rw [k5] at this; exact this) (.int _ _), trivial⟩ Zw.i243 rfl rfl (rowsHold_cons (Elem.row v2 (VL.cons (.atom _ _ rfl) VL.nil)) rowsHold_nil) Zw.r243 rfl rfl (Zw.n179 r0 h1 b1 r1q0 )
    ·
      exact Zw.nx Zw.t244 [(.int .i64 (f1q0 2)), (.int .i64 (m1 : Int)), (.int .i64 d3), (.int .i64 d4)] [p2] [(.slice a1 m1 c1)] (Zw.k0 _) ⟨hold_len (.atom _ _ rfl) (.atom _ _ rfl), hold_bool (.int _ _) (.atom _ _ rfl) (op_lss_t q1), hold_idx v2 l2 (.atom _ _ rfl) (.int _ _) (by omega) rfl, hold_op (.atom _ _ rfl) (.int _ _) (o3 .i64) (.atom _ _ rfl), hold_op (.atom _ _ rfl) (.int _ _) o4 (.atom _ _ rfl), hold_op (.atom _ _ rfl) (.int _ _) (by have := (o5 .i64); rw [k5] at this; exact this) (.int _ _), trivial⟩ Zw.i244 rfl rfl (rowsHold_cons (Elem.row v2 (VL.cons (.atom _ _ rfl) VL.nil)) rowsHold_nil) Zw.r244 rfl rfl (Zw.n180 r0 h1 b1 r1q0 )
    ·
      exact Zw.nx Zw.t245 [(.int .i64 (f1q0 2)), (.int .i64 (m1 : Int)), (.int .i64 d3), (.int .i64 d4)] [p2] [(.slice a1 m1 c1)] (Zw.k0 _) ⟨hold_len (.atom _ _ rfl) (.atom _ _ rfl), hold_bool (.int _ _) (.atom _ _ rfl) (op_lss_t q1), hold_idx v2 l2 (.atom _ _ rfl) (.int _ _) (by omega) rfl, hold_op (.atom _ _ rfl) (.int _ _) (o3 .i64) (.atom _ _ rfl), hold_op (.atom _ _ rfl) (.int _ _) o4 (.atom _ _ rfl), hold_op (.atom _ _ rfl) (.int _ _) (by have := (o5 .i64); rw [k5] at this; exact this) (.int _ _), trivial⟩ Zw.i245 rfl rfl (rowsHold_cons (Elem.row v2 (VL.cons (.atom _ _ rfl) VL.nil)) rowsHold_nil) Zw.r245 rfl rfl (Zw.n181 r0 h1 b1 r1q0 )
    ·
      exact Zw.nx Zw.t246 [(.int .i64 (f1q0 2)), (.int .i64 (m1 : Int)), (.int .i64 d3), (.int .i64 d4)] [p2] [(.slice a1 m1 c1)] (Zw.k0 _) ⟨hold_len (.atom _ _ rfl) (.atom _ _ rfl), hold_bool (.int _ _) (.atom _ _ rfl) (op_lss_t q1), hold_idx v2 l2 (.atom _ _ rfl) (.int _ _) (by omega) rfl, hold_op (.atom _ _ rfl) (.int _ _) (o3 .i64) (.atom _ _ rfl), hold_op (.atom _ _ rfl) (.int _ _) o4 (.atom _ _ rfl), hold_op (.atom _ _ rfl) (.int _ _) (by have := (o5 .i64); rw [k5] at this; exact this) (.int _ _), trivial⟩ Zw.i246 rfl rfl (rowsHold_cons (Elem.row v2 (VL.cons (.atom _ _ rfl) VL.nil)) rowsHold_nil) Zw.r246 rfl rfl (Zw.n182 r0 h1 b1 r1q0 )
    ·
      exact Zw.nx Zw.t247 [(.int .i64 (f1q0 2)), (.int .i64 (m1 : Int)), (.int .i64 d3), (.int .i64 d4)] [p2] [(.slice a1 m1 c1)] (Zw.k0 _) ⟨hold_len (.atom _ _ rfl) (.atom _ _ rfl), hold_bool (.int _ _) (.atom _ _ rfl) (op_lss_t q1), hold_idx v2 l2 (.atom _ _ rfl) (.int _ _) (by omega) rfl, hold_op (.atom _ _ rfl) (.int _ _) (o3 .i64) (.atom _ _ rfl), hold_op (.atom _ _ rfl) (.int _ _) o4 (.atom _ _ rfl), hold_op (.atom _ _ rfl) (.int _ _) (by have := (o5 .i64); rw [k5] at this; exact this) (.int _ _), trivial⟩ Zw.i247 rfl rfl (rowsHold_cons (Elem.row v2 (VL.cons (.atom _ _ rfl) VL.nil)) rowsHold_nil) Zw.r247 rfl rfl (Zw.n183 r0 h1 b1 r1q0 )
  ·
    exact Zw.nx Zw.t248 [(.int .i64 (m1 : Int))] [] [(.slice a1 m1 c1)] (Zw.k0 _) ⟨hold_len (.atom _ _ rfl) (.atom _ _ rfl), hold_bool (.int _ _) (.atom _ _ rfl) (op_lss_f (Int.not_lt.1 q1)), trivial⟩ Zw.i248 rfl rfl rowsHold_nil Zw.r248 rfl rfl (Zw.n179 r0 h1 b1 r1q0 )
theorem Zw.n184 {W : World} {n0 : Int} {a1 : Option Addr} {m1 c1 : Nat} {f1q0 : Nat → Int} (r0 : R64 n0) (h1 : SlcOk W a1 m1 c1 1 (fun i => [.int .i64 (f1q0 i)])) (b1 : (m1 : Int) < 9223372036854775808) (r1q0 : ∀ i, R64 (f1q0 i)) : NdGood Tryz.prog Tryz.f6 8 Tryz.H0 W Zw.p0 Zw.d184 [(.slice a1 m1 c1)] := by
  have ⟨rl0, rh0⟩ := r0
  exact Zw.fx Zw.t376 [] [] (Zw.k0 _) trivial Zw.i376 rfl rfl rowsHold_nil Zw.r376
theorem Zw.n185 {W : World} {n0 : Int} {a1 : Option Addr} {m1 c1 : Nat} {f1q0 : Nat → Int} (r0 : R64 n0) (h1 : SlcOk W a1 m1 c1 1 (fun i => [.int .i64 (f1q0 i)])) (b1 : (m1 : Int) < 9223372036854775808) (r1q0 : ∀ i, R64 (f1q0 i)) : NdGood Tryz.prog Tryz.f6 8 Tryz.H0 W Zw.p0 Zw.d185 [(.slice a1 m1 c1)] := by
  have ⟨rl0, rh0⟩ := r0
  exact Zw.fx Zw.t377 [] [] (Zw.k0 _) trivial Zw.i377 rfl rfl rowsHold_nil Zw.r377
theorem Zw.n186 {W : World} {n0 : Int} {a1 : Option Addr} {m1 c1 : Nat} {f1q0 : Nat → Int} (r0 : R64 n0) (h1 : SlcOk W a1 m1 c1 1 (fun i => [.int .i64 (f1q0 i)])) (b1 : (m1 : Int) < 9223372036854775808) (r1q0 : ∀ i, R64 (f1q0 i)) : NdGood Tryz.prog Tryz.f6 8 Tryz.H0 W Zw.p0 Zw.d186 [(.slice a1 m1 c1)] := by
  have ⟨rl0, rh0⟩ := r0
  exact Zw.fx Zw.t378 [] [] (Zw.k0 _) trivial Zw.i378 rfl rfl rowsHold_nil Zw.r378
theorem Zw.n187 {W : World} {n0 : Int} {a1 : Option Addr} {m1 c1 : Nat} {f1q0 : Nat → Int} (r0 : R64 n0) (h1 : SlcOk W a1 m1 c1 1 (fun i => [.int .i64 (f1q0 i)])) (b1 : (m1 : Int) < 9223372036854775808) (r1q0 : ∀ i, R64 (f1q0 i)) : NdGood Tryz.prog Tryz.f6 8 Tryz.H0 W Zw.p0 Zw.d187 [(.slice a1 m1 c1)] := by
  have ⟨rl0, rh0⟩ := r0
  exact Zw.fx Zw.t379 [] [] (Zw.k0 _) trivial Zw.i379 rfl rfl rowsHold_nil Zw.r379
theorem Zw.n188 {W : World} {n0 : Int} {a1 : Option Addr} {m1 c1 : Nat} {f1q0 : Nat → Int} (r0 : R64 n0) (h1 : SlcOk W a1 m1 c1 1 (fun i => [.int .i64 (f1q0 i)])) (b1 : (m1 : Int) < 9223372036854775808) (r1q0 : ∀ i, R64 (f1q0 i)) : NdGood Tryz.prog Tryz.f6 8 Tryz.H0 W Zw.p0 Zw.d188 [(.slice a1 m1 c1)] := by
  have ⟨rl0, rh0⟩ := r0
  exact Zw.fx Zw.t380 [] [] (Zw.k0 _) trivial Zw.i380 rfl rfl rowsHold_nil Zw.r380
theorem Zw.n67 {W : World} {n0 : Int} {a1 : Option Addr} {m1 c1 : Nat} {f1q0 : Nat → Int} (r0 : R64 n0) (h1 : SlcOk W a1 m1 c1 1 (fun i => [.int .i64 (f1q0 i)])) (b1 : (m1 : Int) < 9223372036854775808) (r1q0 : ∀ i, R64 (f1q0 i)) : NdGood Tryz.prog Tryz.f6 8 Tryz.H0 W Zw.p0 Zw.d67 [(.slice a1 m1 c1)] := by
  have ⟨rl0, rh0⟩ := r0
  by_cases q1 : (2 : Int) < (m1 : Int)
  ·
    have l2 : 2 < m1 := by omega
    obtain ⟨p2, v2⟩ := h1.elem l2
    have w2q0 := r1q0 2
    obtain ⟨d3, ⟨y3, e3, z3, u3, w3⟩, g3, o3⟩ := ex_rem (f1q0 2) (5 : Int) (by omega) (by omega)
    obtain ⟨d4, e4, g4, o4⟩ := ex_add d3 (5 : Int)
    obtain ⟨d5, ⟨y5, e5, z5, u5, w5⟩, g5, o5⟩ := ex_rem d4 (5 : Int) (by omega) (by omega)
    rcases (show d5 = 0 ∨ d5 = 1 ∨ d5 = 2 ∨ d5 = 3 ∨ d5 = 4 by omega) with k5 | k5 | k5 | k5 | k5
    ·
      exact Zw.nx Zw.t249 [(.int .i64 (f1q0 2)), (.int .i64 (m1 : Int)), (.int .i64 d3), (.int .i64 d4)] [p2] [(.slice a1 m1 c1)] (Zw.k0 _) ⟨hold_len (.atom _ _ rfl) (.atom _ _ rfl), hold_bool (.int _ _) (.atom _ _ rfl) (op_lss_t q1), hold_idx v2 l2 (.atom _ _ rfl) (.int _ _) (by omega) rfl, hold_op (.atom _ _ rfl) (.int _ _) (o3 .i64) (.atom _ _ rfl), hold_op (.atom _ _ rfl) (.int _ _) o4 (.atom _ _ rfl), hold_op (.atom _ _ rfl) (.int _ _) (by have := (o5 .i64); rw [k5] at this; exact this) (.int _ _), trivial⟩ Zw.i249 rfl rfl (rowsHold_cons (Elem.row v2 (VL.cons (.atom _ _ rfl) VL.nil)) rowsHold_nil) Zw.r249 rfl rfl (Zw.n184 r0 h1 b1 r1q0 )
    ·
      exact Zw.nx Zw.t250 [(.int .i64 (f1q0 2)), (.int .i64 (m1 : Int)), (.int .i64 d3), (.int .i64 d4)] [p2] [(.slice a1 m1 c1)] (Zw.k0 _) ⟨hold_len (.atom _ _ rfl) (.atom _ _ rfl), hold_bool (.int _ _) (.atom _ _ rfl) (op_lss_t q1), hold_idx v2 l2 (.atom _ _ rfl) (.int _ _) (by omega) rfl, hold_op (.atom _ _ rfl) (.int _ _) (o3 .i64) (.atom _ _ rfl), hold_op (.atom _ _ rfl) (.int _ _) o4 (.atom _ _ rfl), hold_op (.atom _ _ rfl) (.int _ _) (by have := (o5 .i64); rw [k5] at this; exact this) (.int _ _), trivial⟩ Zw.i250 rfl rfl (rowsHold_cons (Elem.row v2 (VL.cons (.atom _ _ rfl) VL.nil)) rowsHold_nil) Zw.r250 rfl rfl (Zw.n185 r0 h1 b1 r1q0 )
    ·
      exact Zw.nx Zw.t251 [(.int .i64 (f1q0 2)), (.int .i64 (m1 : Int)), (.int .i64 d3), (.int .i64 d4)] [p2] [(.slice a1 m1 c1)] (Zw.k0 _) ⟨hold_len (.atom _ _ rfl) (.atom _ _ rfl), hold_bool (.int _ _) (.atom _ _ rfl) (op_lss_t q1), hold_idx v2 l2 (.atom _ _ rfl) (.int _ _) (by omega) rfl, hold_op (.atom _ _ rfl) (.int _ _) (o3 .i64) (.atom _ _ rfl), hold_op (.atom _ _ rfl) (.int _ _) o4 (.atom _ _ rfl), hold_op (.atom _ _ rfl) (.int _ _) (by have := (o5 .i64); rw [k5] at this; exact this) (.int _ _), trivial⟩ Zw.i251 rfl rfl (rowsHold_cons (Elem.row v2 (VL.cons (.atom _ _ rfl) VL.nil)) rowsHold_nil) Zw.r251 rfl rfl (Zw.n186 r0 h1 b1 r1q0 )
    ·
      exact Zw.nx Zw.t252 [(.int .i64 (f1q0 2)), (.int .i64 (m1 : Int)), (.int .i64 d3), (.int .i64 d4)] [p2] [(.slice a1 m1 c1)] (Zw.k0 _) ⟨hold_len (.atom _ _ rfl) (.atom _ _ rfl), hold_bool (.int _ _) (.atom _ _ rfl) (op_lss_t q1), hold_idx v2 l2 (.atom _ _ rfl) (.int _ _) (by omega) rfl, hold_op (.atom _ _ rfl) (.int _ _) (o3 .i64) (.atom _ _ rfl), hold_op (.atom _ _ rfl) (.int _ _) o4 (.atom _ _ rfl), hold_op (.atom _ _ rfl) (.int _ _) (by have := (o5 .i64); rw [k5] at this; exact this) (.int _ _), trivial⟩ Zw.i252 rfl rfl (rowsHold_cons (Elem.row v2 (VL.cons (.atom _ _ rfl) VL.nil)) rowsHold_nil) Zw.r252 rfl rfl (Zw.n187 r0 h1 b1 r1q0 )
    ·
      exact Zw.nx Zw.t253 [(.int .i64 (f1q0 2)), (.int .i64 (m1 : Int)), (.int .i64 d3), (.int .i64 d4)] [p2] [(.slice a1 m1 c1)] (Zw.k0 _) ⟨hold_len (.atom _ _ rfl) (.atom _ _ rfl), hold_bool (.int _ _) (.atom _ _ rfl) (op_lss_t q1), hold_idx v2 l2 (.atom _ _ rfl) (.int _ _) (by omega) rfl, hold_op (.atom _ _ rfl) (.int _ _) (o3 .i64) (.atom _ _ rfl), hold_op (.atom _ _ rfl) (.int _ _) o4 (.atom _ _ rfl), hold_op (.atom _ _ rfl) (.int _ _) (by have := (o5 .i64); rw [k5] at this; exact this) (.int _ _), trivial⟩ Zw.i253 rfl rfl (rowsHold_cons (Elem.row v2 (VL.cons (.atom _ _ rfl) VL.nil)) rowsHold_nil) Zw.r253 rfl rfl (Zw.n188 r0 h1 b1 r1q0 )
  ·
    exact Zw.nx Zw.t254 [(.int .i64 (m1 : Int))] [] [(.slice a1 m1 c1)] (Zw.k0 _) ⟨hold_len (.atom _ _ rfl) (.atom _ _ rfl), hold_bool (.int _ _) (.atom _ _ rfl) (op_lss_f (Int.not_lt.1 q1)), trivial⟩ Zw.i254 rfl rfl rowsHold_nil Zw.r254 rfl rfl (Zw.n184 r0 h1 b1 r1q0 )
theorem Zw.n192 {W : World} {n0 : Int} {a1 : Option Addr} {m1 c1 : Nat} {f1q0 : Nat → Int} (r0 : R64 n0) (h1 : SlcOk W a1 m1 c1 1 (fun i => [.int .i64 (f1q0 i)])) (b1 : (m1 : Int) < 9223372036854775808) (r1q0 : ∀ i, R64 (f1q0 i)) : NdGood Tryz.prog Tryz.f6 8 Tryz.H0 W Zw.p0 Zw.d192 [(.slice a1 m1 c1)] := by
  have ⟨rl0, rh0⟩ := r0
  exact Zw.fx Zw.t384 [] [] (Zw.k0 _) trivial Zw.i384 rfl rfl rowsHold_nil Zw.r384
theorem Zw.n193 {W : World} {n0 : Int} {a1 : Option Addr} {m1 c1 : Nat} {f1q0 : Nat → Int} (r0 : R64 n0) (h1 : SlcOk W a1 m1 c1 1 (fun i => [.int .i64 (f1q0 i)])) (b1 : (m1 : Int) < 9223372036854775808) (r1q0 : ∀ i, R64 (f1q0 i)) : NdGood Tryz.prog Tryz.f6 8 Tryz.H0 W Zw.p0 Zw.d193 [(.slice a1 m1 c1)] := by
  have ⟨rl0, rh0⟩ := r0
  exact Zw.fx Zw.t385 [] [] (Zw.k0 _) trivial Zw.i385 rfl rfl rowsHold_nil Zw.r385
theorem Zw.n189 {W : World} {n0 : Int} {a1 : Option Addr} {m1 c1 : Nat} {f1q0 : Nat → Int} (r0 : R64 n0) (h1 : SlcOk W a1 m1 c1 1 (fun i => [.int .i64 (f1q0 i)])) (b1 : (m1 : Int) < 9223372036854775808) (r1q0 : ∀ i, R64 (f1q0 i)) : NdGood Tryz.prog Tryz.f6 8 Tryz.H0 W Zw.p0 Zw.d189 [(.slice a1 m1 c1)] := by
  have ⟨rl0, rh0⟩ := r0
  exact Zw.fx Zw.t381 [] [] (Zw.k0 _) trivial Zw.i381 rfl rfl rowsHold_nil Zw.r381
theorem Zw.n190 {W : World} {n0 : Int} {a1 : Option Addr} {m1 c1 : Nat} {f1q0 : Nat → Int} (r0 : R64 n0) (h1 : SlcOk W a1 m1 c1 1 (fun i => [.int .i64 (f1q0 i)])) (b1 : (m1 : Int) < 9223372036854775808) (r1q0 : ∀ i, R64 (f1q0 i)) : NdGood Tryz.prog Tryz.f6 8 Tryz.H0 W Zw.p0 Zw.d190 [(.slice a1 m1 c1)] := by
  have ⟨rl0, rh0⟩ := r0
  exact Zw.fx Zw.t382 [] [] (Zw.k0 _) trivial Zw.i382 rfl rfl rowsHold_nil Zw.r382
theorem Zw.n191 {W : World} {n0 : Int} {a1 : Option Addr} {m1 c1 : Nat} {f1q0 : Nat → Int} (r0 : R64 n0) (h1 : SlcOk W a1 m1 c1 1 (fun i => [.int .i64 (f1q0 i)])) (b1 : (m1 : Int) < 9223372036854775808) (r1q0 : ∀ i, R64 (f1q0 i)) : NdGood Tryz.prog Tryz.f6 8 Tryz.H0 W Zw.p0 Zw.d191 [(.slice a1 m1 c1)] := by
  have ⟨rl0, rh0⟩ := r0
  exact Zw.fx Zw.t383 [] [] (Zw.k0 _) trivial Zw.i383 rfl rfl rowsHold_nil Zw.r383
theorem Zw.n68 {W : World} {n0 : Int} {a1 : Option Addr} {m1 c1 : Nat} {f1q0 : Nat → Int} (r0 : R64 n0) (h1 : SlcOk W a1 m1 c1 1 (fun i => [.int .i64 (f1q0 i)])) (b1 : (m1 : Int) < 9223372036854775808) (r1q0 : ∀ i, R64 (f1q0 i)) : NdGood Tryz.prog Tryz.f6 8 Tryz.H0 W Zw.p0 Zw.d68 [(.slice a1 m1 c1)] := by
  have ⟨rl0, rh0⟩ := r0
  by_cases q1 : (2 : Int) < (m1 : Int)
  ·
    have l2 : 2 < m1 := by omega
    obtain ⟨p2, v2⟩ := h1.elem l2
    have w2q0 := r1q0 2
    obtain ⟨d3, ⟨y3, e3, z3, u3, w3⟩, g3, o3⟩ := ex_rem (f1q0 2) (5 : Int) (by omega) (by omega)
    obtain ⟨d4, e4, g4, o4⟩ := ex_add d3 (5 : Int)
    obtain ⟨d5, ⟨y5, e5, z5, u5, w5⟩, g5, o5⟩ := ex_rem d4 (5 : Int) (by omega) (by omega)
    rcases (show d5 = 0 ∨ d5 = 1 ∨ d5 = 2 ∨ d5 = 3 ∨ d5 = 4 by omega) with k5 | k5 | k5 | k5 | k5
    ·
      exact Zw.nx Zw.t255 [(.int .i64 (f1q0 2)), (.int .i64 (m1 : Int)), (.int .i64 d3), (.int .i64 d4)] [p2] [(.slice a1 m1 c1)] (Zw.k0 _) ⟨hold_len (.atom _ _ rfl) (.atom _ _ rfl), hold_bool (.int _ _) (.atom _ _ rfl) (op_lss_t q1), hold_idx v2 l2 (.atom _ _ rfl) (.int _ _) (by omega) rfl, hold_op (.atom _ _ rfl) (.int _ _) (o3 .i64) (.atom _ _ rfl), hold_op (.atom _ _ rfl) (.int _ _) o4 (.atom _ _ rfl), hold_op (.atom _ _ rfl) (.int _ _) (by have := (o5 .i64); rw [k5] at this; exact this) (.int _ _), trivial⟩ Zw.i255 rfl rfl (rowsHold_cons (Elem.row v2 (VL.cons (.atom _ _ rfl) VL.nil)) rowsHold_nil) Zw.r255 rfl rfl (Zw.n189 r0 h1 b1 r1q0 )
    ·
      exact Zw.nx Zw.t256 [(.int .i64 (f1q0 2)), (.int .i64 (m1 : Int)), (.int .i64 d3), (.int .i64 d4)] [p2] [(.slice a1 m1 c1)] (Zw.k0 _) ⟨hold_len (.atom _ _ rfl) (.atom _ _ rfl), hold_bool (.int _ _) (.atom _ _ rfl) (op_lss_t q1), hold_idx v2 l2 (.atom _ _ rfl) (.int _ _) (by omega) rfl, hold_op (.atom _ _ rfl) (.int _ _) (o3 .i64) (.atom _ _ rfl), hold_op (.atom _ _ rfl) (.int _ _) o4 (.atom _ _ rfl), hold_op (.atom _ _ rfl) (.int _ _) (by have := (o5 .i64); rw [k5] at this; exact this) (.int _ _), trivial⟩ Zw.i256 rfl rfl (rowsHold_cons (Elem.row v2 (VL.cons (.atom _ _ rfl) VL.nil)) rowsHold_nil) Zw.r256 rfl rfl (Zw.n190 r0 h1 b1 r1q0 )
    ·
      exact Zw.nx Zw.t257 [(.int .i64 (f1q0 2)), (.int .i64 (m1 : Int)), (.int .i64 d3), (.int .i64 d4)] [p2] [(.slice a1 m1 c1)] (Zw.k0 _) ⟨hold_len (.atom _ _ rfl) (.atom _ _ rfl), hold_bool (.int _ _) (.atom _ _ rfl) (op_lss_t q1), hold_idx v2 l2 (.atom _ _ rfl) (.int _ _) (by omega) rfl, hold_op (.atom _ _ rfl) (.int _ _) (o3 .i64) (.atom _ _ rfl), hold_op (.atom _ _ rfl) (.int _ _) o4 (.atom _ _ rfl), hold_op (.atom _ _ rfl) (.int _ _) (by have := (o5 .i64); rw [k5] at this; exact this) (.int _ _), trivial⟩ Zw.i257 rfl rfl (rowsHold_cons (Elem.row v2 (VL.cons (.atom _ _ rfl) VL.nil)) rowsHold_nil) Zw.r257 rfl rfl (Zw.n191 r0 h1 b1 r1q0 )
    ·
      exact Zw.nx Zw.t258 [(.int .i64 (f1q0 2)), (.int .i64 (m1 : Int)), (.int .i64 d3), (.int .i64 d4)] [p2] [(.slice a1 m1 c1)] (Zw.k0 _) ⟨hold_len (.atom _ _ rfl) (.atom _ _ rfl), hold_bool (.int _ _) (.atom _ _ rfl) (op_lss_t q1), hold_idx v2 l2 (.atom _ _ rfl) (.int _ _) (by omega) rfl, hold_op (.atom _ _ rfl) (.int _ _) (o3 .i64) (.atom _ _ rfl), hold_op (.atom _ _ rfl) (.int _ _) o4 (.atom _ _ rfl), hold_op (.atom _ _ rfl) (.int _ _) (by have := (o5 .i64); rw [k5] at this; exact this) (.int _ _), trivial⟩ Zw.i258 rfl rfl (rowsHold_cons (Elem.row v2 (VL.cons (.atom _ _ rfl) VL.nil)) rowsHold_nil) Zw.r258 rfl rfl (Zw.n192 r0 h1 b1 r1q0 )
    ·
      exact Zw.nx Zw.t259 [(.int .i64 (f1q0 2)), (.int .i64 (m1 : Int)), (.int .i64 d3), (.int .i64 d4)] [p2] [(.slice a1 m1 c1)] (Zw.k0 _) ⟨hold_len (.atom _ _ rfl) (.atom _ _ rfl), hold_bool (.int _ _) (.atom _ _ rfl) (op_lss_t q1), hold_idx v2 l2 (.atom _ _ rfl) (.int _ _) (by omega) rfl, hold_op (.atom _ _ rfl) (.int _ _) (o3 .i64) (.atom _ _ rfl), hold_op (.atom _ _ rfl) (.int _ _) o4 (.atom _ _ rfl), hold_op (.atom _ _ rfl) (.int _ _) (by have := (o5 .i64); rw [k5] at this; exact this) (.int _ _), trivial⟩ Zw.i259 rfl rfl (rowsHold_cons (Elem.row v2 (VL.cons (.atom _ _ rfl) VL.nil)) rowsHold_nil) Zw.r259 rfl rfl (Zw.n193 r0 h1 b1 r1q0 )
  ·
    exact Zw.nx Zw.t260 [(.int .i64 (m1 : Int))] [] [(.slice a1 m1 c1)] (Zw.k0 _) ⟨hold_len (.atom _ _ rfl) (.atom _ _ rfl), hold_bool (.int _ _) (.atom _ _ rfl) (op_lss_f (Int.not_lt.1 q1)), trivial⟩ Zw.i260 rfl rfl rowsHold_nil Zw.r260 rfl rfl (Zw.n189 r0 h1 b1 r1q0 )
theorem Zw.n18 {W : World} {n0 : Int} {a1 : Option Addr} {m1 c1 : Nat} {f1q0 : Nat → Int} (r0 : R64 n0) (h1 : SlcOk W a1 m1 c1 1 (fun i => [.int .i64 (f1q0 i)])) (b1 : (m1 : Int) < 9223372036854775808) (r1q0 : ∀ i, R64 (f1q0 i)) : NdGood Tryz.prog Tryz.f6 8 Tryz.H0 W Zw.p0 Zw.d18 [(.slice a1 m1 c1)] := by
  have ⟨rl0, rh0⟩ := r0
  by_cases q1 : (1 : Int) < (m1 : Int)
  ·
    have l2 : 1 < m1 := by omega
    obtain ⟨p2, v2⟩ := h1.elem l2
    have w2q0 := r1q0 1
    obtain ⟨d3, ⟨y3, e3, z3, u3, w3⟩, g3, o3⟩ := ex_rem (f1q0 1) (5 : Int) (by omega) (by omega)
    obtain ⟨d4, e4, g4, o4⟩ := ex_add d3 (5 : Int)
    obtain ⟨d5, ⟨y5, e5, z5, u5, w5⟩, g5, o5⟩ := ex_rem d4 (5 : Int) (by omega) (by omega)
    rcases (show d5 = 0 ∨ d5 = 1 ∨ d5 = 2 ∨ d5 = 3 ∨ d5 = 4 by omega) with k5 | k5 | k5 | k5 | k5
    ·
      exact Zw.nx Zw.t80 [(.int .i64 (f1q0 1)), (.int .i64 (m1 : Int)), (.int .i64 d3), (.int .i64 d4)] [p2] [(.slice a1 m1 c1)] (Zw.k0 _) ⟨hold_len (.atom _ _ rfl) (.atom _ _ rfl), hold_bool (.int _ _) (.atom _ _ rfl) (op_lss_t q1), hold_idx v2 l2 (.atom _ _ rfl) (.int _ _) (by omega) rfl, hold_op (.atom _ _ rfl) (.int _ _) (o3 .i64) (.atom _ _ rfl), hold_op (.atom _ _ rfl) (.int _ _) o4 (.atom _ _ rfl), hold_op (.atom _ _ rfl) (.int _ _) (by have := (o5 .i64); rw [k5] at this; exact this) (.int _ _), trivial⟩ Zw.i80 rfl rfl (rowsHold_cons (Elem.row v2 (VL.cons (.atom _ _ rfl) VL.nil)) rowsHold_nil) Zw.r80 rfl rfl (Zw.n64 r0 h1 b1 r1q0 )
    ·
      exact Zw.nx Zw.t81 [(.int .i64 (f1q0 1)), (.int .i64 (m1 : Int)), (.int .i64 d3), (.int .i64 d4)] [p2] [(.slice a1 m1 c1)] (Zw.k0 _) ⟨hold_len (.atom _ _ rfl) (.atom _ _ rfl), hold_bool (.int _ _) (.atom _ _ rfl) (op_lss_t q1), hold_idx v2 l2 (.atom _ _ rfl) (.int _ _) (by omega) rfl, hold_op (.atom _ _ rfl) (.int _ _) (o3 .i64) (.atom _ _ rfl), hold_op (.atom _ _ rfl) (.int _ _) o4 (.atom _ _ rfl), hold_op (.atom _ _ rfl) (.int _ _) (by have := (o5 .i64); rw [k5] at this; exact this) (.int _ _), trivial⟩ Zw.i81 rfl rfl (rowsHold_cons (Elem.row v2 (VL.cons (.atom _ _ rfl) VL.nil)) rowsHold_nil) Zw.r81 rfl rfl (Zw.n65 r0 h1 b1 r1q0 )
    ·
      exact Zw.nx Zw.t82 [(.int .i64 (f1q0 1)), (.int .i64 (m1 : Int)), (.int .i64 d3), (.int .i64 d4)] [p2] [(.slice a1 m1 c1)] (Zw.k0 _) ⟨hold_len (.atom _ _ rfl) (.atom _ _ rfl), hold_bool (.int _ _) (.atom _ _ rfl) (op_lss_t q1), hold_idx v2 l2 (.atom _ _ rfl) (.int _ _) (by omega) rfl, hold_op (.atom _ _ rfl) (.int _ _) (o3 .i64) (.atom _ _ rfl), hold_op (.atom _ _ rfl) (.int _ _) o4 (.atom _ _ rfl), hold_op (.atom _ _ rfl) (.int _ _) (by have := (o5 .i64); rw [k5] at this; exact this) (.int _ _), trivial⟩ Zw.i82 rfl rfl (rowsHold_cons (Elem.row v2 (VL.cons (.atom _ _ rfl) VL.nil)) rowsHold_nil) Zw.r82 rfl rfl (Zw.n66 r0 h1 b1 r1q0 )
    ·
      exact Zw.nx Zw.t83 [(.int .i64 (f1q0 1)), (.int .i64 (m1 : Int)), (.int .i64 d3), (.int .i64 d4)] [p2] [(.slice a1 m1 c1)] (Zw.k0 _) ⟨hold_len (.atom _ _ rfl) (.atom _ _ rfl), hold_bool (.int _ _) (.atom _ _ rfl) (op_lss_t q1), hold_idx v2 l2 (.atom _ _ rfl) (.int _ _) (by omega) rfl, hold_op (.atom _ _ rfl) (.int _ _) (o3 .i64) (.atom _ _ rfl), hold_op (.atom _ _ rfl) (.int _ _) o4 (.atom _ _ rfl), hold_op (.atom _ _ rfl) (.int _ _) (by have := (o5 .i64); rw [k5] at this; exact this) (.int _ _), trivial⟩ Zw.i83 rfl rfl (rowsHold_cons (Elem.row v2 (VL.cons (.atom _ _ rfl) VL.nil)) rowsHold_nil) Zw.r83 rfl rfl (Zw.n67 r0 h1 b1 r1q0 )
    ·
      exact Zw.nx Zw.t84 [(.int .i64 (f1q0 1)), (.int .i64 (m1 : Int)), (.int .i64 d3), (.int .i64 d4)] [p2] [(.slice a1 m1 c1)] (Zw.k0 _) ⟨hold_len (.atom _ _ rfl) (.atom _ _ rfl), hold_bool (.int _ _) (.atom _ _ rfl) (op_lss_t q1), hold_idx v2 l2 (.atom _ _ rfl) (.int _ _) (by omega) rfl, hold_op (.atom _ _ rfl) (.int _ _) (o3 .i64) (.atom _ _ rfl), hold_op (.atom _ _ rfl) (.int _ _) o4 (.atom _ _ rfl), hold_op (.atom _ _ rfl) (.int _ _) (by have := (o5 .i64); rw [k5] at this; exact this) (.int _ _), trivial⟩ Zw.i84 rfl rfl (rowsHold_cons (Elem.row v2 (VL.cons (.atom _ _ rfl) VL.nil)) rowsHold_nil) Zw.r84 rfl rfl (Zw.n68 r0 h1 b1 r1q0 )
  ·
    exact Zw.nx Zw.t85 [(.int .i64 (m1 : Int))] [] [(.slice a1 m1 c1)] (Zw.k0 _) ⟨hold_len (.atom _ _ rfl) (.atom _ _ rfl), hold_bool (.int _ _) (.atom _ _ rfl) (op_lss_f (Int.not_lt.1 q1)), trivial⟩ Zw.i85 rfl rfl rowsHold_nil Zw.r85 rfl rfl (Zw.n64 r0 h1 b1 r1q0 )
theorem Zw.n3 {W : World} {n0 : Int} {a1 : Option Addr} {m1 c1 : Nat} {f1q0 : Nat → Int} (r0 : R64 n0) (h1 : SlcOk W a1 m1 c1 1 (fun i => [.int .i64 (f1q0 i)])) (b1 : (m1 : Int) < 9223372036854775808) (r1q0 : ∀ i, R64 (f1q0 i)) : NdGood Tryz.prog Tryz.f6 8 Tryz.H0 W Zw.p0 Zw.d3 [(.slice a1 m1 c1)] := by
  have ⟨rl0, rh0⟩ := r0
  by_cases q1 : (0 : Int) < (m1 : Int)
  ·
    have l2 : 0 < m1 := by omega
    obtain ⟨p2, v2⟩ := h1.elem l2
    have w2q0 := r1q0 0
    obtain ⟨d3, ⟨y3, e3, z3, u3, w3⟩, g3, o3⟩ := ex_rem (f1q0 0) (5 : Int) (by omega) (by omega)
    obtain ⟨d4, e4, g4, o4⟩ := ex_add d3 (5 : Int)
    obtain ⟨d5, ⟨y5, e5, z5, u5, w5⟩, g5, o5⟩ := ex_rem d4 (5 : Int) (by omega) (by omega)
    rcases (show d5 = 0 ∨ d5 = 1 ∨ d5 = 2 ∨ d5 = 3 ∨ d5 = 4 by omega) with k5 | k5 | k5 | k5 | k5
    ·
      exact Zw.nx Zw.t15 [(.int .i64 (f1q0 0)), (.int .i64 (m1 : Int)), (.int .i64 d3), (.int .i64 d4)] [p2] [(.slice a1 m1 c1)] (Zw.k0 _) ⟨hold_len (.atom _ _ rfl) (.atom _ _ rfl), hold_bool (.int _ _) (.atom _ _ rfl) (op_lss_t q1), hold_idx v2 l2 (.atom _ _ rfl) (.int _ _) (by omega) rfl, hold_op (.atom _ _ rfl) (.int _ _) (o3 .i64) (.atom _ _ rfl), hold_op (.atom _ _ rfl) (.int _ _) o4 (.atom _ _ rfl), hold_op (.atom _ _ rfl) (.int _ _) (by have := (o5 .i64); rw [k5] at this; exact this) (.int _ _), trivial⟩ Zw.i15 rfl rfl (rowsHold_cons (Elem.row v2 (VL.cons (.atom _ _ rfl) VL.nil)) rowsHold_nil) Zw.r15 rfl rfl (Zw.n14 r0 h1 b1 r1q0 )
    ·
      exact Zw.nx Zw.t16 [(.int .i64 (f1q0 0)), (.int .i64 (m1 : Int)), (.int .i64 d3), (.int .i64 d4)] [p2] [(.slice a1 m1 c1)] (Zw.k0 _) ⟨hold_len (.atom _ _ rfl) (.atom _ _ rfl), hold_bool (.int _ _) (.atom _ _ rfl) (op_lss_t q1), hold_idx v2 l2 (.atom _ _ rfl) (.int _ _) (by omega) rfl, hold_op (.atom _ _ rfl) (.int _ _) (o3 .i64) (.atom _ _ rfl), hold_op (.atom _ _ rfl) (.int _ _) o4 (.atom _ _ rfl), hold_op (.atom _ _ rfl) (.int _ _) (by have := (o5 .i64); rw [k5] at this; exact this) (.int _ _), trivial⟩ Zw.i16 rfl rfl (rowsHold_cons (Elem.row v2 (VL.cons (.atom _ _ rfl) VL.nil)) rowsHold_nil) Zw.r16 rfl rfl (Zw.n15 r0 h1 b1 r1q0 )
    ·
      exact Zw.nx Zw.t17 [(.int .i64 (f1q0 0)), (.int .i64 (m1 : Int)), (.int .i64 d3), (.int .i64 d4)] [p2] [(.slice a1 m1 c1)] (Zw.k0 _) ⟨hold_len (.atom _ _ rfl) (.atom _ _ rfl), hold_bool (.int _ _) (.atom _ _ rfl) (op_lss_t q1), hold_idx v2 l2 (.atom _ _ rfl) (.int _ _) (by omega) rfl, hold_op (.atom _ _ rfl) (.int _ _) (o3 .i64) (.atom _ _ rfl), hold_op (.atom _ _ rfl) (.int _ _) o4 (.atom _ _ rfl), hold_op (.atom _ _ rfl) (.int _ _) (by have := (o5 .i64); rw [k5] at this; exact this) (.int _ _), trivial⟩ Zw.i17 rfl rfl (rowsHold_cons (Elem.row v2 (VL.cons (.atom _ _ rfl) VL.nil)) rowsHold_nil) Zw.r17 rfl rfl (Zw.n16 r0 h1 b1 r1q0 )
    ·
      exact Zw.nx Zw.t18 [(.int .i64 (f1q0 0)), (.int .i64 (m1 : Int)), (.int .i64 d3), (.int .i64 d4)] [p2] [(.slice a1 m1 c1)] (Zw.k0 _) ⟨hold_len (.atom _ _ rfl) (.atom _ _ rfl), hold_bool (.int _ _) (.atom _ _ rfl) (op_lss_t q1), hold_idx v2 l2 (.atom _ _ rfl) (.int _ _) (by omega) rfl, hold_op (.atom _ _ rfl) (.int _ _) (o3 .i64) (.atom _ _ rfl), hold_op (.atom _ _ rfl) (.int _ _) o4 (.atom _ _ rfl), hold_op (.atom _ _ rfl) (.int _ _) (by have := (o5 .i64); rw [k5] at this; exact this) (.int _ _), trivial⟩ Zw.i18 rfl rfl (rowsHold_cons (Elem.row v2 (VL.cons (.atom _ _ rfl) VL.nil)) rowsHold_nil) Zw.r18 rfl rfl (Zw.n17 r0 h1 b1 r1q0 )
    ·
      exact Zw.nx Zw.t19 [(.int .i64 (f1q0 0)), (.int .i64 (m1 : Int)), (.int .i64 d3), (.int .i64 d4)] [p2] [(.slice a1 m1 c1)] (Zw.k0 _) ⟨hold_len (.atom _ _ rfl) (.atom _ _ rfl), hold_bool (.int _ _) (.atom _ _ rfl) (op_lss_t q1), hold_idx v2 l2 (.atom _ _ rfl) (.int _ _) (by omega) rfl, hold_op (.atom _ _ rfl) (.int _ _) (o3 .i64) (.atom _ _ rfl), hold_op (.atom _ _ rfl) (.int _ _) o4 (.atom _ _ rfl), hold_op (.atom _ _ rfl) (.int _ _) (by have := (o5 .i64); rw [k5] at this; exact this) (.int _ _), trivial⟩ Zw.i19 rfl rfl (rowsHold_cons (Elem.row v2 (VL.cons (.atom _ _ rfl) VL.nil)) rowsHold_nil) Zw.r19 rfl rfl (Zw.n18 r0 h1 b1 r1q0 )
  ·
    exact Zw.nx Zw.t20 [(.int .i64 (m1 : Int))] [] [(.slice a1 m1 c1)] (Zw.k0 _) ⟨hold_len (.atom _ _ rfl) (.atom _ _ rfl), hold_bool (.int _ _) (.atom _ _ rfl) (op_lss_f (Int.not_lt.1 q1)), trivial⟩ Zw.i20 rfl rfl rowsHold_nil Zw.r20 rfl rfl (Zw.n14 r0 h1 b1 r1q0 )
theorem Zw.n0 {W : World} {n0 : Int} {a1 : Option Addr} {m1 c1 : Nat} {f1q0 : Nat → Int} (r0 : R64 n0) (h1 : SlcOk W a1 m1 c1 1 (fun i => [.int .i64 (f1q0 i)])) (b1 : (m1 : Int) < 9223372036854775808) (r1q0 : ∀ i, R64 (f1q0 i)) : NdGood Tryz.prog Tryz.f6 8 Tryz.H0 W Zw.pS Zw.d0 [(.int .i64 n0), (.slice a1 m1 c1)] := by
  have ⟨rl0, rh0⟩ := r0
  obtain ⟨d1, ⟨y1, e1, z1, u1, w1⟩, g1, o1⟩ := ex_rem n0 (3 : Int) (by omega) (by omega)
  obtain ⟨d2, e2, g2, o2⟩ := ex_add d1 (3 : Int)
  obtain ⟨d3, ⟨y3, e3, z3, u3, w3⟩, g3, o3⟩ := ex_rem d2 (3 : Int) (by omega) (by omega)
  rcases (show d3 = 0 ∨ d3 = 1 ∨ d3 = 2 by omega) with k3 | k3 | k3
  ·
    exact Zw.nx Zw.t0 [(.int .i64 d1), (.int .i64 d2)] [] [(.slice a1 m1 c1)] (Zw.kS _) ⟨hold_op (.atom _ _ rfl) (.int _ _) (o1 .i64) (.atom _ _ rfl), hold_op (.atom _ _ rfl) (.int _ _) o2 (.atom _ _ rfl), hold_op (.atom _ _ rfl) (.int _ _) (by have := (o3 .i64); rw [k3] at this; exact this) (.int _ _), trivial⟩ Zw.i0 rfl rfl rowsHold_nil Zw.r0 rfl rfl (Zw.n1 r0 h1 b1 r1q0 )
  ·
    exact Zw.nx Zw.t1 [(.int .i64 d1), (.int .i64 d2)] [] [(.slice a1 m1 c1)] (Zw.kS _) ⟨hold_op (.atom _ _ rfl) (.int _ _) (o1 .i64) (.atom _ _ rfl), hold_op (.atom _ _ rfl) (.int _ _) o2 (.atom _ _ rfl), hold_op (.atom _ _ rfl) (.int _ _) (by have := (o3 .i64); rw [k3] at this; exact this) (.int _ _), trivial⟩ Zw.i1 rfl rfl rowsHold_nil Zw.r1 rfl rfl (Zw.n2 r0 h1 b1 r1q0 )
  ·
    exact Zw.nx Zw.t2 [(.int .i64 d1), (.int .i64 d2)] [] [(.slice a1 m1 c1)] (Zw.kS _) ⟨hold_op (.atom _ _ rfl) (.int _ _) (o1 .i64) (.atom _ _ rfl), hold_op (.atom _ _ rfl) (.int _ _) o2 (.atom _ _ rfl), hold_op (.atom _ _ rfl) (.int _ _) (by have := (o3 .i64); rw [k3] at this; exact this) (.int _ _), trivial⟩ Zw.i2 rfl rfl rowsHold_nil Zw.r2 rfl rfl (Zw.n3 r0 h1 b1 r1q0 )
end Go.Proofs
