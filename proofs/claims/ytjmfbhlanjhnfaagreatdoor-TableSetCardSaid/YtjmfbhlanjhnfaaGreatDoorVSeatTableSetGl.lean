/- The law, node by node; hence from its start, for every input. No conditions. -/
import Derived.Test.YtjmfbhlanjhnfaaGreatDoorVSeatTableSetR1
import Derived.Test.YtjmfbhlanjhnfaaGreatDoorVSeatTableSetR2
set_option linter.all false
namespace Go.Proofs
open Go Go.Vsx Go.RowKit
set_option maxRecDepth 1000000
set_option maxHeartbeats 4000000
set_option linter.unusedVariables false
theorem Zw.r64a {x : Int} (h : R64 x) : -9223372036854775808 ≤ x ∧ x < 9223372036854775808 := h
theorem Zw.nx {W : World} {pt pt' : Pt} {d d' : Nd} {vals : List Value} {roc : List (List Value)} {j hk : Nat} {rl : List (Nat × Nat)} {A : List Value} (t : List SE) (ex : List Value) (rows : List Pl) (vals' : List Value)
    (hok : ∀ sy, okPt (Tryz.Es Tryz.m4 sy) 8 pt = true) (hold : AllHold (nodeMu 8 rows (vals ++ ex)) t)
    (hid : d.sub 8 roc (idl 8 d.objs) (idA hk) (d.st 8 []) = true) (hlen : hk = vals.length) (hone : (vals ++ ex).all (·.oneCell') = true) (hrow : RowsHold W (nodeMu 8 rows (vals ++ ex)) rows roc)
    (hrun : leafNext (fK (Tryz.Es Tryz.m4 (syOf t)) 100000 100000 pt (d.st 8 roc) j) 8 d' rl A = some pt') (hA : evL (nodeMu 8 rows (vals ++ ex)) A = some vals') (hone' : vals'.all (·.oneCell') = true)
    (h : NdGood Tryz.prog Tryz.f4 8 Tryz.H0 W pt' d' vals') : NdGood Tryz.prog Tryz.f4 8 Tryz.H0 W pt d vals :=
  NdGood.next (E := Tryz.Es Tryz.m4 (syOf t)) (extras := ex) (rows := rows) (vals' := vals') (by omega) (Tryz.right Tryz.m4 (syOf t) _ W Tryz.mOk4 (symOk_of rfl hold)) (hok _) hid hlen hone hrow hrun hA hone' h
theorem Zw.fx {W : World} {pt : Pt} {d : Nd} {vals : List Value} {roc : List (List Value)} {j hk : Nat} (t : List SE) (ex : List Value) (rows : List Pl)
    (hok : ∀ sy, okPt (Tryz.Es Tryz.m4 sy) 8 pt = true) (hold : AllHold (nodeMu 8 rows (vals ++ ex)) t)
    (hid : d.sub 8 roc (idl 8 d.objs) (idA hk) (d.st 8 []) = true) (hlen : hk = vals.length) (hone : (vals ++ ex).all (·.oneCell') = true) (hrow : RowsHold W (nodeMu 8 rows (vals ++ ex)) rows roc)
    (hrun : leafFin (Tryz.Es Tryz.m4 (syOf t)) Tryz.f4 (fK (Tryz.Es Tryz.m4 (syOf t)) 100000 100000 pt (d.st 8 roc) j) = true) : NdGood Tryz.prog Tryz.f4 8 Tryz.H0 W pt d vals :=
  NdGood.fin (E := Tryz.Es Tryz.m4 (syOf t)) (extras := ex) (rows := rows) (by omega) (Tryz.right Tryz.m4 (syOf t) _ W Tryz.mOk4 (symOk_of rfl hold)) (hok _) hid hlen hone hrow hrun

theorem Zw.s9 {W : World} {a0 : Option Addr} {m0 c0 : Nat} {f0q0 : Nat → Int} {a1 : Option Addr} {m1 c1 : Nat} {f1q0 : Nat → Bool} {n2 : Int} (h0 : SlcOk W a0 m0 c0 1 (fun i => [.int .i64 (f0q0 i)])) (b0 : (m0 : Int) < 9223372036854775808) (r0q0 : ∀ i, R64 (f0q0 i)) (h1 : SlcOk W a1 m1 c1 1 (fun i => [.bool (f1q0 i)])) (b1 : (m1 : Int) < 9223372036854775808) (r2 : R64 n2) : ∀ k : Nat, (∀ (x2 : Int) (x3 : Int) (g2x : R64 x2) (g3x : R64 x3) (p10 : (0 ≤ x3 ∧ x3 ≤ 30)), (30 - x3) ≤ k → NdGood Tryz.prog Tryz.f4 8 Tryz.H0 W Zw.p0 Zw.d9 [(.slice a0 m0 c0), (.slice a1 m1 c1), (.int .i64 x2), (.int .i64 x3)]) ∧ (∀ (x2 : Int) (g2x : R64 x2) (p10 : (0 ≤ x2 ∧ x2 ≤ 30)), (30 - x2) ≤ k → NdGood Tryz.prog Tryz.f4 8 Tryz.H0 W Zw.p0 Zw.d17 [(.slice a0 m0 c0), (.slice a1 m1 c1), (.int .i64 x2)]) := by
  intro k
  induction k with
  | zero =>
    refine ⟨?_, ?_⟩
    ·
      intro x2 x3 g2x g3x p10 hk
      have ⟨gl2, gh2⟩ := g2x
      have ⟨gl3, gh3⟩ := g3x
      have ⟨rl2, rh2⟩ := r2
      have ⟨p10l, p10h⟩ := p10
      by_cases q1 : x3 < (m0 : Int)
      ·
        by_cases q2 : x3 < (m1 : Int)
        ·
          by_cases q3 : x3 < (30 : Int)
          ·
            have l4 : (x3).toNat < m0 := by omega
            obtain ⟨p4, v4⟩ := h0.elem l4
            have w4q0 := r0q0 (x3).toNat
            have l5 : (x3).toNat < m1 := by omega
            obtain ⟨p5, v5⟩ := h1.elem l5
            cases z6 : f1q0 (x3).toNat with
            | true =>
              obtain ⟨d7, e7, g7, o7⟩ := ex_add x3 (1 : Int)
              exfalso; omega
            | false =>
              obtain ⟨d8, e8, g8, o8⟩ := ex_add x3 (1 : Int)
              exfalso; omega
          ·
            exact Zw.fx Zw.t205 [(.int .i64 (m0 : Int)), (.int .i64 (m1 : Int))] [] (Zw.k0 _) ⟨hold_len (.atom _ _ rfl) (.atom _ _ rfl), hold_bool (.atom _ _ rfl) (.atom _ _ rfl) (op_lss_t q1), hold_len (.atom _ _ rfl) (.atom _ _ rfl), hold_bool (.atom _ _ rfl) (.atom _ _ rfl) (op_lss_t q2), hold_bool (.atom _ _ rfl) (.int _ _) (op_lss_f (Int.not_lt.1 q3)), trivial⟩ Zw.i205 rfl rfl rowsHold_nil Zw.r205
        ·
          exact Zw.fx Zw.t206 [(.int .i64 (m0 : Int)), (.int .i64 (m1 : Int))] [] (Zw.k0 _) ⟨hold_len (.atom _ _ rfl) (.atom _ _ rfl), hold_bool (.atom _ _ rfl) (.atom _ _ rfl) (op_lss_t q1), hold_len (.atom _ _ rfl) (.atom _ _ rfl), hold_bool (.atom _ _ rfl) (.atom _ _ rfl) (op_lss_f (Int.not_lt.1 q2)), trivial⟩ Zw.i206 rfl rfl rowsHold_nil Zw.r206
      ·
        exact Zw.fx Zw.t207 [(.int .i64 (m0 : Int))] [] (Zw.k0 _) ⟨hold_len (.atom _ _ rfl) (.atom _ _ rfl), hold_bool (.atom _ _ rfl) (.atom _ _ rfl) (op_lss_f (Int.not_lt.1 q1)), trivial⟩ Zw.i207 rfl rfl rowsHold_nil Zw.r207
    ·
      intro x2 g2x p10 hk
      have ⟨gl2, gh2⟩ := g2x
      have ⟨rl2, rh2⟩ := r2
      have ⟨p10l, p10h⟩ := p10
      by_cases q1 : x2 < (m0 : Int)
      ·
        by_cases q2 : x2 < (m1 : Int)
        ·
          by_cases q3 : x2 < (30 : Int)
          ·
            have l4 : (x2).toNat < m0 := by omega
            obtain ⟨p4, v4⟩ := h0.elem l4
            have w4q0 := r0q0 (x2).toNat
            have l5 : (x2).toNat < m1 := by omega
            obtain ⟨p5, v5⟩ := h1.elem l5
            cases z6 : f1q0 (x2).toNat with
            | true =>
              obtain ⟨d7, e7, g7, o7⟩ := ex_add x2 (1 : Int)
              exfalso; omega
            | false =>
              obtain ⟨d8, e8, g8, o8⟩ := ex_add x2 (1 : Int)
              exfalso; omega
          ·
            exact Zw.fx Zw.t265 [(.int .i64 (m0 : Int)), (.int .i64 (m1 : Int))] [] (Zw.k0 _) ⟨hold_len (.atom _ _ rfl) (.atom _ _ rfl), hold_bool (.atom _ _ rfl) (.atom _ _ rfl) (op_lss_t q1), hold_len (.atom _ _ rfl) (.atom _ _ rfl), hold_bool (.atom _ _ rfl) (.atom _ _ rfl) (op_lss_t q2), hold_bool (.atom _ _ rfl) (.int _ _) (op_lss_f (Int.not_lt.1 q3)), trivial⟩ Zw.i265 rfl rfl rowsHold_nil Zw.r265
        ·
          exact Zw.fx Zw.t266 [(.int .i64 (m0 : Int)), (.int .i64 (m1 : Int))] [] (Zw.k0 _) ⟨hold_len (.atom _ _ rfl) (.atom _ _ rfl), hold_bool (.atom _ _ rfl) (.atom _ _ rfl) (op_lss_t q1), hold_len (.atom _ _ rfl) (.atom _ _ rfl), hold_bool (.atom _ _ rfl) (.atom _ _ rfl) (op_lss_f (Int.not_lt.1 q2)), trivial⟩ Zw.i266 rfl rfl rowsHold_nil Zw.r266
      ·
        exact Zw.fx Zw.t267 [(.int .i64 (m0 : Int))] [] (Zw.k0 _) ⟨hold_len (.atom _ _ rfl) (.atom _ _ rfl), hold_bool (.atom _ _ rfl) (.atom _ _ rfl) (op_lss_f (Int.not_lt.1 q1)), trivial⟩ Zw.i267 rfl rfl rowsHold_nil Zw.r267
  | succ k ih =>
    obtain ⟨ih9, ih17⟩ := ih
    refine ⟨?_, ?_⟩
    ·
      intro x2 x3 g2x g3x p10 hk
      have ⟨gl2, gh2⟩ := g2x
      have ⟨gl3, gh3⟩ := g3x
      have ⟨rl2, rh2⟩ := r2
      have ⟨p10l, p10h⟩ := p10
      by_cases q1 : x3 < (m0 : Int)
      ·
        by_cases q2 : x3 < (m1 : Int)
        ·
          by_cases q3 : x3 < (30 : Int)
          ·
            have l4 : (x3).toNat < m0 := by omega
            obtain ⟨p4, v4⟩ := h0.elem l4
            have w4q0 := r0q0 (x3).toNat
            have l5 : (x3).toNat < m1 := by omega
            obtain ⟨p5, v5⟩ := h1.elem l5
            cases z6 : f1q0 (x3).toNat with
            | true =>
              obtain ⟨d7, e7, g7, o7⟩ := ex_add x3 (1 : Int)
              exact Zw.nx Zw.t203 [(.int .i64 (f0q0 (x3).toNat)), (.int .i64 (m0 : Int)), (.int .i64 (m1 : Int)), (.int .i64 d7)] [p4, p5] [(.slice a0 m0 c0), (.slice a1 m1 c1), (.int .i64 d7)] (Zw.k0 _) ⟨hold_len (.atom _ _ rfl) (.atom _ _ rfl), hold_bool (.atom _ _ rfl) (.atom _ _ rfl) (op_lss_t q1), hold_len (.atom _ _ rfl) (.atom _ _ rfl), hold_bool (.atom _ _ rfl) (.atom _ _ rfl) (op_lss_t q2), hold_bool (.atom _ _ rfl) (.int _ _) (op_lss_t q3), hold_idx v4 l4 (.atom _ _ rfl) (.atom _ _ rfl) (by omega) rfl, hold_idx v5 l5 (.atom _ _ rfl) (.atom _ _ rfl) (by omega) rfl, hold_bool (.atom _ _ rfl) (.atom _ _ rfl) (op_neq_f rfl), hold_op (.atom _ _ rfl) (.int _ _) o7 (.atom _ _ rfl), trivial⟩ Zw.i203 rfl rfl (rowsHold_cons (Elem.row v4 (VL.cons (.atom _ _ rfl) VL.nil)) (rowsHold_cons (Elem.row v5 (VL.cons (vb z6) VL.nil)) rowsHold_nil)) Zw.r203 rfl rfl (ih17 d7 (by first | assumption | (constructor <;> omega) | trivial) (by constructor <;> omega) (by omega))
            | false =>
              obtain ⟨d8, e8, g8, o8⟩ := ex_add x3 (1 : Int)
              exact Zw.nx Zw.t204 [(.int .i64 (f0q0 (x3).toNat)), (.int .i64 (m0 : Int)), (.int .i64 (m1 : Int)), (.int .i64 d8)] [p4, p5] [(.slice a0 m0 c0), (.slice a1 m1 c1), (.int .i64 (f0q0 (x3).toNat)), (.int .i64 d8)] (Zw.k0 _) ⟨hold_len (.atom _ _ rfl) (.atom _ _ rfl), hold_bool (.atom _ _ rfl) (.atom _ _ rfl) (op_lss_t q1), hold_len (.atom _ _ rfl) (.atom _ _ rfl), hold_bool (.atom _ _ rfl) (.atom _ _ rfl) (op_lss_t q2), hold_bool (.atom _ _ rfl) (.int _ _) (op_lss_t q3), hold_idx v4 l4 (.atom _ _ rfl) (.atom _ _ rfl) (by omega) rfl, hold_idx v5 l5 (.atom _ _ rfl) (.atom _ _ rfl) (by omega) rfl, hold_bool (.atom _ _ rfl) (.atom _ _ rfl) (op_neq_f rfl), hold_op (.atom _ _ rfl) (.int _ _) o8 (.atom _ _ rfl), trivial⟩ Zw.i204 rfl rfl (rowsHold_cons (Elem.row v4 (VL.cons (.atom _ _ rfl) VL.nil)) (rowsHold_cons (Elem.row v5 (VL.cons (vb z6) VL.nil)) rowsHold_nil)) Zw.r204 rfl rfl (ih9 (f0q0 (x3).toNat) d8 (by first | assumption | (constructor <;> omega) | trivial) (by first | assumption | (constructor <;> omega) | trivial) (by constructor <;> omega) (by omega))
          ·
            exact Zw.fx Zw.t205 [(.int .i64 (m0 : Int)), (.int .i64 (m1 : Int))] [] (Zw.k0 _) ⟨hold_len (.atom _ _ rfl) (.atom _ _ rfl), hold_bool (.atom _ _ rfl) (.atom _ _ rfl) (op_lss_t q1), hold_len (.atom _ _ rfl) (.atom _ _ rfl), hold_bool (.atom _ _ rfl) (.atom _ _ rfl) (op_lss_t q2), hold_bool (.atom _ _ rfl) (.int _ _) (op_lss_f (Int.not_lt.1 q3)), trivial⟩ Zw.i205 rfl rfl rowsHold_nil Zw.r205
        ·
          exact Zw.fx Zw.t206 [(.int .i64 (m0 : Int)), (.int .i64 (m1 : Int))] [] (Zw.k0 _) ⟨hold_len (.atom _ _ rfl) (.atom _ _ rfl), hold_bool (.atom _ _ rfl) (.atom _ _ rfl) (op_lss_t q1), hold_len (.atom _ _ rfl) (.atom _ _ rfl), hold_bool (.atom _ _ rfl) (.atom _ _ rfl) (op_lss_f (Int.not_lt.1 q2)), trivial⟩ Zw.i206 rfl rfl rowsHold_nil Zw.r206
      ·
        exact Zw.fx Zw.t207 [(.int .i64 (m0 : Int))] [] (Zw.k0 _) ⟨hold_len (.atom _ _ rfl) (.atom _ _ rfl), hold_bool (.atom _ _ rfl) (.atom _ _ rfl) (op_lss_f (Int.not_lt.1 q1)), trivial⟩ Zw.i207 rfl rfl rowsHold_nil Zw.r207
    ·
      intro x2 g2x p10 hk
      have ⟨gl2, gh2⟩ := g2x
      have ⟨rl2, rh2⟩ := r2
      have ⟨p10l, p10h⟩ := p10
      by_cases q1 : x2 < (m0 : Int)
      ·
        by_cases q2 : x2 < (m1 : Int)
        ·
          by_cases q3 : x2 < (30 : Int)
          ·
            have l4 : (x2).toNat < m0 := by omega
            obtain ⟨p4, v4⟩ := h0.elem l4
            have w4q0 := r0q0 (x2).toNat
            have l5 : (x2).toNat < m1 := by omega
            obtain ⟨p5, v5⟩ := h1.elem l5
            cases z6 : f1q0 (x2).toNat with
            | true =>
              obtain ⟨d7, e7, g7, o7⟩ := ex_add x2 (1 : Int)
              exact Zw.nx Zw.t263 [(.int .i64 (f0q0 (x2).toNat)), (.int .i64 (m0 : Int)), (.int .i64 (m1 : Int)), (.int .i64 d7)] [p4, p5] [(.slice a0 m0 c0), (.slice a1 m1 c1), (.int .i64 d7)] (Zw.k0 _) ⟨hold_len (.atom _ _ rfl) (.atom _ _ rfl), hold_bool (.atom _ _ rfl) (.atom _ _ rfl) (op_lss_t q1), hold_len (.atom _ _ rfl) (.atom _ _ rfl), hold_bool (.atom _ _ rfl) (.atom _ _ rfl) (op_lss_t q2), hold_bool (.atom _ _ rfl) (.int _ _) (op_lss_t q3), hold_idx v4 l4 (.atom _ _ rfl) (.atom _ _ rfl) (by omega) rfl, hold_idx v5 l5 (.atom _ _ rfl) (.atom _ _ rfl) (by omega) rfl, hold_op (.atom _ _ rfl) (.int _ _) o7 (.atom _ _ rfl), trivial⟩ Zw.i263 rfl rfl (rowsHold_cons (Elem.row v4 (VL.cons (.atom _ _ rfl) VL.nil)) (rowsHold_cons (Elem.row v5 (VL.cons (vb z6) VL.nil)) rowsHold_nil)) Zw.r263 rfl rfl (ih17 d7 (by first | assumption | (constructor <;> omega) | trivial) (by constructor <;> omega) (by omega))
            | false =>
              obtain ⟨d8, e8, g8, o8⟩ := ex_add x2 (1 : Int)
              exact Zw.nx Zw.t264 [(.int .i64 (f0q0 (x2).toNat)), (.int .i64 (m0 : Int)), (.int .i64 (m1 : Int)), (.int .i64 d8)] [p4, p5] [(.slice a0 m0 c0), (.slice a1 m1 c1), (.int .i64 (f0q0 (x2).toNat)), (.int .i64 d8)] (Zw.k0 _) ⟨hold_len (.atom _ _ rfl) (.atom _ _ rfl), hold_bool (.atom _ _ rfl) (.atom _ _ rfl) (op_lss_t q1), hold_len (.atom _ _ rfl) (.atom _ _ rfl), hold_bool (.atom _ _ rfl) (.atom _ _ rfl) (op_lss_t q2), hold_bool (.atom _ _ rfl) (.int _ _) (op_lss_t q3), hold_idx v4 l4 (.atom _ _ rfl) (.atom _ _ rfl) (by omega) rfl, hold_idx v5 l5 (.atom _ _ rfl) (.atom _ _ rfl) (by omega) rfl, hold_op (.atom _ _ rfl) (.int _ _) o8 (.atom _ _ rfl), trivial⟩ Zw.i264 rfl rfl (rowsHold_cons (Elem.row v4 (VL.cons (.atom _ _ rfl) VL.nil)) (rowsHold_cons (Elem.row v5 (VL.cons (vb z6) VL.nil)) rowsHold_nil)) Zw.r264 rfl rfl (ih9 (f0q0 (x2).toNat) d8 (by first | assumption | (constructor <;> omega) | trivial) (by first | assumption | (constructor <;> omega) | trivial) (by constructor <;> omega) (by omega))
          ·
            exact Zw.fx Zw.t265 [(.int .i64 (m0 : Int)), (.int .i64 (m1 : Int))] [] (Zw.k0 _) ⟨hold_len (.atom _ _ rfl) (.atom _ _ rfl), hold_bool (.atom _ _ rfl) (.atom _ _ rfl) (op_lss_t q1), hold_len (.atom _ _ rfl) (.atom _ _ rfl), hold_bool (.atom _ _ rfl) (.atom _ _ rfl) (op_lss_t q2), hold_bool (.atom _ _ rfl) (.int _ _) (op_lss_f (Int.not_lt.1 q3)), trivial⟩ Zw.i265 rfl rfl rowsHold_nil Zw.r265
        ·
          exact Zw.fx Zw.t266 [(.int .i64 (m0 : Int)), (.int .i64 (m1 : Int))] [] (Zw.k0 _) ⟨hold_len (.atom _ _ rfl) (.atom _ _ rfl), hold_bool (.atom _ _ rfl) (.atom _ _ rfl) (op_lss_t q1), hold_len (.atom _ _ rfl) (.atom _ _ rfl), hold_bool (.atom _ _ rfl) (.atom _ _ rfl) (op_lss_f (Int.not_lt.1 q2)), trivial⟩ Zw.i266 rfl rfl rowsHold_nil Zw.r266
      ·
        exact Zw.fx Zw.t267 [(.int .i64 (m0 : Int))] [] (Zw.k0 _) ⟨hold_len (.atom _ _ rfl) (.atom _ _ rfl), hold_bool (.atom _ _ rfl) (.atom _ _ rfl) (op_lss_f (Int.not_lt.1 q1)), trivial⟩ Zw.i267 rfl rfl rowsHold_nil Zw.r267
theorem Zw.n9 {W : World} {a0 : Option Addr} {m0 c0 : Nat} {f0q0 : Nat → Int} {a1 : Option Addr} {m1 c1 : Nat} {f1q0 : Nat → Bool} {n2 : Int} (h0 : SlcOk W a0 m0 c0 1 (fun i => [.int .i64 (f0q0 i)])) (b0 : (m0 : Int) < 9223372036854775808) (r0q0 : ∀ i, R64 (f0q0 i)) (h1 : SlcOk W a1 m1 c1 1 (fun i => [.bool (f1q0 i)])) (b1 : (m1 : Int) < 9223372036854775808) (r2 : R64 n2) (x2 : Int) (x3 : Int) (g2x : R64 x2) (g3x : R64 x3) (p10 : (0 ≤ x3 ∧ x3 ≤ 30)) : NdGood Tryz.prog Tryz.f4 8 Tryz.H0 W Zw.p0 Zw.d9 [(.slice a0 m0 c0), (.slice a1 m1 c1), (.int .i64 x2), (.int .i64 x3)] :=
  ((Zw.s9 h0 b0 r0q0 h1 b1 r2 (30 - x3).toNat).1) x2 x3 g2x g3x p10 (by omega)
theorem Zw.n17 {W : World} {a0 : Option Addr} {m0 c0 : Nat} {f0q0 : Nat → Int} {a1 : Option Addr} {m1 c1 : Nat} {f1q0 : Nat → Bool} {n2 : Int} (h0 : SlcOk W a0 m0 c0 1 (fun i => [.int .i64 (f0q0 i)])) (b0 : (m0 : Int) < 9223372036854775808) (r0q0 : ∀ i, R64 (f0q0 i)) (h1 : SlcOk W a1 m1 c1 1 (fun i => [.bool (f1q0 i)])) (b1 : (m1 : Int) < 9223372036854775808) (r2 : R64 n2) (x2 : Int) (g2x : R64 x2) (p10 : (0 ≤ x2 ∧ x2 ≤ 30)) : NdGood Tryz.prog Tryz.f4 8 Tryz.H0 W Zw.p0 Zw.d17 [(.slice a0 m0 c0), (.slice a1 m1 c1), (.int .i64 x2)] :=
  ((Zw.s9 h0 b0 r0q0 h1 b1 r2 (30 - x2).toNat).2) x2 g2x p10 (by omega)
theorem Zw.s1 {W : World} {a0 : Option Addr} {m0 c0 : Nat} {f0q0 : Nat → Int} {a1 : Option Addr} {m1 c1 : Nat} {f1q0 : Nat → Bool} {n2 : Int} (h0 : SlcOk W a0 m0 c0 1 (fun i => [.int .i64 (f0q0 i)])) (b0 : (m0 : Int) < 9223372036854775808) (r0q0 : ∀ i, R64 (f0q0 i)) (h1 : SlcOk W a1 m1 c1 1 (fun i => [.bool (f1q0 i)])) (b1 : (m1 : Int) < 9223372036854775808) (r2 : R64 n2) : ∀ k : Nat, (∀ (x2 : Int) (g2x : R64 x2) (p10 : (0 ≤ x2 ∧ x2 ≤ 30)), (30 - x2) ≤ k → NdGood Tryz.prog Tryz.f4 8 Tryz.H0 W Zw.p0 Zw.d1 [(.slice a0 m0 c0), (.slice a1 m1 c1), (.int .i64 x2)]) := by
  intro k
  induction k with
  | zero =>
    intro x2 g2x p10 hk
    have ⟨gl2, gh2⟩ := g2x
    have ⟨rl2, rh2⟩ := r2
    have ⟨p10l, p10h⟩ := p10
    by_cases q1 : x2 < (m0 : Int)
    ·
      by_cases q2 : x2 < (m1 : Int)
      ·
        by_cases q3 : x2 < (30 : Int)
        ·
          have l4 : (x2).toNat < m0 := by omega
          obtain ⟨p4, v4⟩ := h0.elem l4
          have w4q0 := r0q0 (x2).toNat
          have l5 : (x2).toNat < m1 := by omega
          obtain ⟨p5, v5⟩ := h1.elem l5
          cases z6 : f1q0 (x2).toNat with
          | true =>
            obtain ⟨d7, e7, g7, o7⟩ := ex_add x2 (1 : Int)
            exfalso; omega
          | false =>
            obtain ⟨d8, e8, g8, o8⟩ := ex_add x2 (1 : Int)
            exact Zw.nx Zw.t24 [(.int .i64 (f0q0 (x2).toNat)), (.int .i64 (m0 : Int)), (.int .i64 (m1 : Int)), (.int .i64 d8)] [p4, p5] [(.slice a0 m0 c0), (.slice a1 m1 c1), (.int .i64 (f0q0 (x2).toNat)), (.int .i64 d8)] (Zw.k0 _) ⟨hold_len (.atom _ _ rfl) (.atom _ _ rfl), hold_bool (.atom _ _ rfl) (.atom _ _ rfl) (op_lss_t q1), hold_len (.atom _ _ rfl) (.atom _ _ rfl), hold_bool (.atom _ _ rfl) (.atom _ _ rfl) (op_lss_t q2), hold_bool (.atom _ _ rfl) (.int _ _) (op_lss_t q3), hold_idx v4 l4 (.atom _ _ rfl) (.atom _ _ rfl) (by omega) rfl, hold_idx v5 l5 (.atom _ _ rfl) (.atom _ _ rfl) (by omega) rfl, hold_op (.atom _ _ rfl) (.int _ _) o8 (.atom _ _ rfl), trivial⟩ Zw.i24 rfl rfl (rowsHold_cons (Elem.row v4 (VL.cons (.atom _ _ rfl) VL.nil)) (rowsHold_cons (Elem.row v5 (VL.cons (vb z6) VL.nil)) rowsHold_nil)) Zw.r24 rfl rfl (Zw.n9 h0 b0 r0q0 h1 b1 r2 (f0q0 (x2).toNat) d8 (by first | assumption | (constructor <;> omega) | trivial) (by first | assumption | (constructor <;> omega) | trivial) (by constructor <;> omega))
        ·
          exact Zw.fx Zw.t25 [(.int .i64 (m0 : Int)), (.int .i64 (m1 : Int))] [] (Zw.k0 _) ⟨hold_len (.atom _ _ rfl) (.atom _ _ rfl), hold_bool (.atom _ _ rfl) (.atom _ _ rfl) (op_lss_t q1), hold_len (.atom _ _ rfl) (.atom _ _ rfl), hold_bool (.atom _ _ rfl) (.atom _ _ rfl) (op_lss_t q2), hold_bool (.atom _ _ rfl) (.int _ _) (op_lss_f (Int.not_lt.1 q3)), trivial⟩ Zw.i25 rfl rfl rowsHold_nil Zw.r25
      ·
        exact Zw.fx Zw.t26 [(.int .i64 (m0 : Int)), (.int .i64 (m1 : Int))] [] (Zw.k0 _) ⟨hold_len (.atom _ _ rfl) (.atom _ _ rfl), hold_bool (.atom _ _ rfl) (.atom _ _ rfl) (op_lss_t q1), hold_len (.atom _ _ rfl) (.atom _ _ rfl), hold_bool (.atom _ _ rfl) (.atom _ _ rfl) (op_lss_f (Int.not_lt.1 q2)), trivial⟩ Zw.i26 rfl rfl rowsHold_nil Zw.r26
    ·
      exact Zw.fx Zw.t27 [(.int .i64 (m0 : Int))] [] (Zw.k0 _) ⟨hold_len (.atom _ _ rfl) (.atom _ _ rfl), hold_bool (.atom _ _ rfl) (.atom _ _ rfl) (op_lss_f (Int.not_lt.1 q1)), trivial⟩ Zw.i27 rfl rfl rowsHold_nil Zw.r27
  | succ k ih =>
    have ih1 := ih
    intro x2 g2x p10 hk
    have ⟨gl2, gh2⟩ := g2x
    have ⟨rl2, rh2⟩ := r2
    have ⟨p10l, p10h⟩ := p10
    by_cases q1 : x2 < (m0 : Int)
    ·
      by_cases q2 : x2 < (m1 : Int)
      ·
        by_cases q3 : x2 < (30 : Int)
        ·
          have l4 : (x2).toNat < m0 := by omega
          obtain ⟨p4, v4⟩ := h0.elem l4
          have w4q0 := r0q0 (x2).toNat
          have l5 : (x2).toNat < m1 := by omega
          obtain ⟨p5, v5⟩ := h1.elem l5
          cases z6 : f1q0 (x2).toNat with
          | true =>
            obtain ⟨d7, e7, g7, o7⟩ := ex_add x2 (1 : Int)
            exact Zw.nx Zw.t23 [(.int .i64 (f0q0 (x2).toNat)), (.int .i64 (m0 : Int)), (.int .i64 (m1 : Int)), (.int .i64 d7)] [p4, p5] [(.slice a0 m0 c0), (.slice a1 m1 c1), (.int .i64 d7)] (Zw.k0 _) ⟨hold_len (.atom _ _ rfl) (.atom _ _ rfl), hold_bool (.atom _ _ rfl) (.atom _ _ rfl) (op_lss_t q1), hold_len (.atom _ _ rfl) (.atom _ _ rfl), hold_bool (.atom _ _ rfl) (.atom _ _ rfl) (op_lss_t q2), hold_bool (.atom _ _ rfl) (.int _ _) (op_lss_t q3), hold_idx v4 l4 (.atom _ _ rfl) (.atom _ _ rfl) (by omega) rfl, hold_idx v5 l5 (.atom _ _ rfl) (.atom _ _ rfl) (by omega) rfl, hold_op (.atom _ _ rfl) (.int _ _) o7 (.atom _ _ rfl), trivial⟩ Zw.i23 rfl rfl (rowsHold_cons (Elem.row v4 (VL.cons (.atom _ _ rfl) VL.nil)) (rowsHold_cons (Elem.row v5 (VL.cons (vb z6) VL.nil)) rowsHold_nil)) Zw.r23 rfl rfl (ih1 d7 (by first | assumption | (constructor <;> omega) | trivial) (by constructor <;> omega) (by omega))
          | false =>
            obtain ⟨d8, e8, g8, o8⟩ := ex_add x2 (1 : Int)
            exact Zw.nx Zw.t24 [(.int .i64 (f0q0 (x2).toNat)), (.int .i64 (m0 : Int)), (.int .i64 (m1 : Int)), (.int .i64 d8)] [p4, p5] [(.slice a0 m0 c0), (.slice a1 m1 c1), (.int .i64 (f0q0 (x2).toNat)), (.int .i64 d8)] (Zw.k0 _) ⟨hold_len (.atom _ _ rfl) (.atom _ _ rfl), hold_bool (.atom _ _ rfl) (.atom _ _ rfl) (op_lss_t q1), hold_len (.atom _ _ rfl) (.atom _ _ rfl), hold_bool (.atom _ _ rfl) (.atom _ _ rfl) (op_lss_t q2), hold_bool (.atom _ _ rfl) (.int _ _) (op_lss_t q3), hold_idx v4 l4 (.atom _ _ rfl) (.atom _ _ rfl) (by omega) rfl, hold_idx v5 l5 (.atom _ _ rfl) (.atom _ _ rfl) (by omega) rfl, hold_op (.atom _ _ rfl) (.int _ _) o8 (.atom _ _ rfl), trivial⟩ Zw.i24 rfl rfl (rowsHold_cons (Elem.row v4 (VL.cons (.atom _ _ rfl) VL.nil)) (rowsHold_cons (Elem.row v5 (VL.cons (vb z6) VL.nil)) rowsHold_nil)) Zw.r24 rfl rfl (Zw.n9 h0 b0 r0q0 h1 b1 r2 (f0q0 (x2).toNat) d8 (by first | assumption | (constructor <;> omega) | trivial) (by first | assumption | (constructor <;> omega) | trivial) (by constructor <;> omega))
        ·
          exact Zw.fx Zw.t25 [(.int .i64 (m0 : Int)), (.int .i64 (m1 : Int))] [] (Zw.k0 _) ⟨hold_len (.atom _ _ rfl) (.atom _ _ rfl), hold_bool (.atom _ _ rfl) (.atom _ _ rfl) (op_lss_t q1), hold_len (.atom _ _ rfl) (.atom _ _ rfl), hold_bool (.atom _ _ rfl) (.atom _ _ rfl) (op_lss_t q2), hold_bool (.atom _ _ rfl) (.int _ _) (op_lss_f (Int.not_lt.1 q3)), trivial⟩ Zw.i25 rfl rfl rowsHold_nil Zw.r25
      ·
        exact Zw.fx Zw.t26 [(.int .i64 (m0 : Int)), (.int .i64 (m1 : Int))] [] (Zw.k0 _) ⟨hold_len (.atom _ _ rfl) (.atom _ _ rfl), hold_bool (.atom _ _ rfl) (.atom _ _ rfl) (op_lss_t q1), hold_len (.atom _ _ rfl) (.atom _ _ rfl), hold_bool (.atom _ _ rfl) (.atom _ _ rfl) (op_lss_f (Int.not_lt.1 q2)), trivial⟩ Zw.i26 rfl rfl rowsHold_nil Zw.r26
    ·
      exact Zw.fx Zw.t27 [(.int .i64 (m0 : Int))] [] (Zw.k0 _) ⟨hold_len (.atom _ _ rfl) (.atom _ _ rfl), hold_bool (.atom _ _ rfl) (.atom _ _ rfl) (op_lss_f (Int.not_lt.1 q1)), trivial⟩ Zw.i27 rfl rfl rowsHold_nil Zw.r27
theorem Zw.n1 {W : World} {a0 : Option Addr} {m0 c0 : Nat} {f0q0 : Nat → Int} {a1 : Option Addr} {m1 c1 : Nat} {f1q0 : Nat → Bool} {n2 : Int} (h0 : SlcOk W a0 m0 c0 1 (fun i => [.int .i64 (f0q0 i)])) (b0 : (m0 : Int) < 9223372036854775808) (r0q0 : ∀ i, R64 (f0q0 i)) (h1 : SlcOk W a1 m1 c1 1 (fun i => [.bool (f1q0 i)])) (b1 : (m1 : Int) < 9223372036854775808) (r2 : R64 n2) (x2 : Int) (g2x : R64 x2) (p10 : (0 ≤ x2 ∧ x2 ≤ 30)) : NdGood Tryz.prog Tryz.f4 8 Tryz.H0 W Zw.p0 Zw.d1 [(.slice a0 m0 c0), (.slice a1 m1 c1), (.int .i64 x2)] :=
  (Zw.s1 h0 b0 r0q0 h1 b1 r2 (30 - x2).toNat) x2 g2x p10 (by omega)
theorem Zw.s10 {W : World} {a0 : Option Addr} {m0 c0 : Nat} {f0q0 : Nat → Int} {a1 : Option Addr} {m1 c1 : Nat} {f1q0 : Nat → Bool} {n2 : Int} (h0 : SlcOk W a0 m0 c0 1 (fun i => [.int .i64 (f0q0 i)])) (b0 : (m0 : Int) < 9223372036854775808) (r0q0 : ∀ i, R64 (f0q0 i)) (h1 : SlcOk W a1 m1 c1 1 (fun i => [.bool (f1q0 i)])) (b1 : (m1 : Int) < 9223372036854775808) (r2 : R64 n2) : ∀ k : Nat, (∀ (x2 : Int) (x3 : Int) (g2x : R64 x2) (g3x : R64 x3) (p10 : (0 ≤ x3 ∧ x3 ≤ 30)), (30 - x3) ≤ k → NdGood Tryz.prog Tryz.f4 8 Tryz.H0 W Zw.p0 Zw.d10 [(.slice a0 m0 c0), (.slice a1 m1 c1), (.int .i64 x2), (.int .i64 x3)]) ∧ (∀ (x2 : Int) (g2x : R64 x2) (p10 : (0 ≤ x2 ∧ x2 ≤ 30)), (30 - x2) ≤ k → NdGood Tryz.prog Tryz.f4 8 Tryz.H0 W Zw.p0 Zw.d18 [(.slice a0 m0 c0), (.slice a1 m1 c1), (.int .i64 x2)]) := by
  intro k
  induction k with
  | zero =>
    refine ⟨?_, ?_⟩
    ·
      intro x2 x3 g2x g3x p10 hk
      have ⟨gl2, gh2⟩ := g2x
      have ⟨gl3, gh3⟩ := g3x
      have ⟨rl2, rh2⟩ := r2
      have ⟨p10l, p10h⟩ := p10
      by_cases q1 : x3 < (m0 : Int)
      ·
        by_cases q2 : x3 < (m1 : Int)
        ·
          by_cases q3 : x3 < (30 : Int)
          ·
            have l4 : (x3).toNat < m0 := by omega
            obtain ⟨p4, v4⟩ := h0.elem l4
            have w4q0 := r0q0 (x3).toNat
            have l5 : (x3).toNat < m1 := by omega
            obtain ⟨p5, v5⟩ := h1.elem l5
            cases z6 : f1q0 (x3).toNat with
            | true =>
              obtain ⟨d7, e7, g7, o7⟩ := ex_add x3 (1 : Int)
              exfalso; omega
            | false =>
              obtain ⟨d8, e8, g8, o8⟩ := ex_add x3 (1 : Int)
              exfalso; omega
          ·
            exact Zw.fx Zw.t210 [(.int .i64 (m0 : Int)), (.int .i64 (m1 : Int))] [] (Zw.k0 _) ⟨hold_len (.atom _ _ rfl) (.atom _ _ rfl), hold_bool (.atom _ _ rfl) (.atom _ _ rfl) (op_lss_t q1), hold_len (.atom _ _ rfl) (.atom _ _ rfl), hold_bool (.atom _ _ rfl) (.atom _ _ rfl) (op_lss_t q2), hold_bool (.atom _ _ rfl) (.int _ _) (op_lss_f (Int.not_lt.1 q3)), trivial⟩ Zw.i210 rfl rfl rowsHold_nil Zw.r210
        ·
          exact Zw.fx Zw.t211 [(.int .i64 (m0 : Int)), (.int .i64 (m1 : Int))] [] (Zw.k0 _) ⟨hold_len (.atom _ _ rfl) (.atom _ _ rfl), hold_bool (.atom _ _ rfl) (.atom _ _ rfl) (op_lss_t q1), hold_len (.atom _ _ rfl) (.atom _ _ rfl), hold_bool (.atom _ _ rfl) (.atom _ _ rfl) (op_lss_f (Int.not_lt.1 q2)), trivial⟩ Zw.i211 rfl rfl rowsHold_nil Zw.r211
      ·
        exact Zw.fx Zw.t212 [(.int .i64 (m0 : Int))] [] (Zw.k0 _) ⟨hold_len (.atom _ _ rfl) (.atom _ _ rfl), hold_bool (.atom _ _ rfl) (.atom _ _ rfl) (op_lss_f (Int.not_lt.1 q1)), trivial⟩ Zw.i212 rfl rfl rowsHold_nil Zw.r212
    ·
      intro x2 g2x p10 hk
      have ⟨gl2, gh2⟩ := g2x
      have ⟨rl2, rh2⟩ := r2
      have ⟨p10l, p10h⟩ := p10
      by_cases q1 : x2 < (m0 : Int)
      ·
        by_cases q2 : x2 < (m1 : Int)
        ·
          by_cases q3 : x2 < (30 : Int)
          ·
            have l4 : (x2).toNat < m0 := by omega
            obtain ⟨p4, v4⟩ := h0.elem l4
            have w4q0 := r0q0 (x2).toNat
            have l5 : (x2).toNat < m1 := by omega
            obtain ⟨p5, v5⟩ := h1.elem l5
            cases z6 : f1q0 (x2).toNat with
            | true =>
              obtain ⟨d7, e7, g7, o7⟩ := ex_add x2 (1 : Int)
              exfalso; omega
            | false =>
              obtain ⟨d8, e8, g8, o8⟩ := ex_add x2 (1 : Int)
              exfalso; omega
          ·
            exact Zw.fx Zw.t270 [(.int .i64 (m0 : Int)), (.int .i64 (m1 : Int))] [] (Zw.k0 _) ⟨hold_len (.atom _ _ rfl) (.atom _ _ rfl), hold_bool (.atom _ _ rfl) (.atom _ _ rfl) (op_lss_t q1), hold_len (.atom _ _ rfl) (.atom _ _ rfl), hold_bool (.atom _ _ rfl) (.atom _ _ rfl) (op_lss_t q2), hold_bool (.atom _ _ rfl) (.int _ _) (op_lss_f (Int.not_lt.1 q3)), trivial⟩ Zw.i270 rfl rfl rowsHold_nil Zw.r270
        ·
          exact Zw.fx Zw.t271 [(.int .i64 (m0 : Int)), (.int .i64 (m1 : Int))] [] (Zw.k0 _) ⟨hold_len (.atom _ _ rfl) (.atom _ _ rfl), hold_bool (.atom _ _ rfl) (.atom _ _ rfl) (op_lss_t q1), hold_len (.atom _ _ rfl) (.atom _ _ rfl), hold_bool (.atom _ _ rfl) (.atom _ _ rfl) (op_lss_f (Int.not_lt.1 q2)), trivial⟩ Zw.i271 rfl rfl rowsHold_nil Zw.r271
      ·
        exact Zw.fx Zw.t272 [(.int .i64 (m0 : Int))] [] (Zw.k0 _) ⟨hold_len (.atom _ _ rfl) (.atom _ _ rfl), hold_bool (.atom _ _ rfl) (.atom _ _ rfl) (op_lss_f (Int.not_lt.1 q1)), trivial⟩ Zw.i272 rfl rfl rowsHold_nil Zw.r272
  | succ k ih =>
    obtain ⟨ih10, ih18⟩ := ih
    refine ⟨?_, ?_⟩
    ·
      intro x2 x3 g2x g3x p10 hk
      have ⟨gl2, gh2⟩ := g2x
      have ⟨gl3, gh3⟩ := g3x
      have ⟨rl2, rh2⟩ := r2
      have ⟨p10l, p10h⟩ := p10
      by_cases q1 : x3 < (m0 : Int)
      ·
        by_cases q2 : x3 < (m1 : Int)
        ·
          by_cases q3 : x3 < (30 : Int)
          ·
            have l4 : (x3).toNat < m0 := by omega
            obtain ⟨p4, v4⟩ := h0.elem l4
            have w4q0 := r0q0 (x3).toNat
            have l5 : (x3).toNat < m1 := by omega
            obtain ⟨p5, v5⟩ := h1.elem l5
            cases z6 : f1q0 (x3).toNat with
            | true =>
              obtain ⟨d7, e7, g7, o7⟩ := ex_add x3 (1 : Int)
              exact Zw.nx Zw.t208 [(.int .i64 (f0q0 (x3).toNat)), (.int .i64 (m0 : Int)), (.int .i64 (m1 : Int)), (.int .i64 d7)] [p4, p5] [(.slice a0 m0 c0), (.slice a1 m1 c1), (.int .i64 d7)] (Zw.k0 _) ⟨hold_len (.atom _ _ rfl) (.atom _ _ rfl), hold_bool (.atom _ _ rfl) (.atom _ _ rfl) (op_lss_t q1), hold_len (.atom _ _ rfl) (.atom _ _ rfl), hold_bool (.atom _ _ rfl) (.atom _ _ rfl) (op_lss_t q2), hold_bool (.atom _ _ rfl) (.int _ _) (op_lss_t q3), hold_idx v4 l4 (.atom _ _ rfl) (.atom _ _ rfl) (by omega) rfl, hold_idx v5 l5 (.atom _ _ rfl) (.atom _ _ rfl) (by omega) rfl, hold_bool (.atom _ _ rfl) (.atom _ _ rfl) (op_neq_f rfl), hold_op (.atom _ _ rfl) (.int _ _) o7 (.atom _ _ rfl), trivial⟩ Zw.i208 rfl rfl (rowsHold_cons (Elem.row v4 (VL.cons (.atom _ _ rfl) VL.nil)) (rowsHold_cons (Elem.row v5 (VL.cons (vb z6) VL.nil)) rowsHold_nil)) Zw.r208 rfl rfl (ih18 d7 (by first | assumption | (constructor <;> omega) | trivial) (by constructor <;> omega) (by omega))
            | false =>
              obtain ⟨d8, e8, g8, o8⟩ := ex_add x3 (1 : Int)
              exact Zw.nx Zw.t209 [(.int .i64 (f0q0 (x3).toNat)), (.int .i64 (m0 : Int)), (.int .i64 (m1 : Int)), (.int .i64 d8)] [p4, p5] [(.slice a0 m0 c0), (.slice a1 m1 c1), (.int .i64 (f0q0 (x3).toNat)), (.int .i64 d8)] (Zw.k0 _) ⟨hold_len (.atom _ _ rfl) (.atom _ _ rfl), hold_bool (.atom _ _ rfl) (.atom _ _ rfl) (op_lss_t q1), hold_len (.atom _ _ rfl) (.atom _ _ rfl), hold_bool (.atom _ _ rfl) (.atom _ _ rfl) (op_lss_t q2), hold_bool (.atom _ _ rfl) (.int _ _) (op_lss_t q3), hold_idx v4 l4 (.atom _ _ rfl) (.atom _ _ rfl) (by omega) rfl, hold_idx v5 l5 (.atom _ _ rfl) (.atom _ _ rfl) (by omega) rfl, hold_bool (.atom _ _ rfl) (.atom _ _ rfl) (op_neq_f rfl), hold_op (.atom _ _ rfl) (.int _ _) o8 (.atom _ _ rfl), trivial⟩ Zw.i209 rfl rfl (rowsHold_cons (Elem.row v4 (VL.cons (.atom _ _ rfl) VL.nil)) (rowsHold_cons (Elem.row v5 (VL.cons (vb z6) VL.nil)) rowsHold_nil)) Zw.r209 rfl rfl (ih10 (f0q0 (x3).toNat) d8 (by first | assumption | (constructor <;> omega) | trivial) (by first | assumption | (constructor <;> omega) | trivial) (by constructor <;> omega) (by omega))
          ·
            exact Zw.fx Zw.t210 [(.int .i64 (m0 : Int)), (.int .i64 (m1 : Int))] [] (Zw.k0 _) ⟨hold_len (.atom _ _ rfl) (.atom _ _ rfl), hold_bool (.atom _ _ rfl) (.atom _ _ rfl) (op_lss_t q1), hold_len (.atom _ _ rfl) (.atom _ _ rfl), hold_bool (.atom _ _ rfl) (.atom _ _ rfl) (op_lss_t q2), hold_bool (.atom _ _ rfl) (.int _ _) (op_lss_f (Int.not_lt.1 q3)), trivial⟩ Zw.i210 rfl rfl rowsHold_nil Zw.r210
        ·
          exact Zw.fx Zw.t211 [(.int .i64 (m0 : Int)), (.int .i64 (m1 : Int))] [] (Zw.k0 _) ⟨hold_len (.atom _ _ rfl) (.atom _ _ rfl), hold_bool (.atom _ _ rfl) (.atom _ _ rfl) (op_lss_t q1), hold_len (.atom _ _ rfl) (.atom _ _ rfl), hold_bool (.atom _ _ rfl) (.atom _ _ rfl) (op_lss_f (Int.not_lt.1 q2)), trivial⟩ Zw.i211 rfl rfl rowsHold_nil Zw.r211
      ·
        exact Zw.fx Zw.t212 [(.int .i64 (m0 : Int))] [] (Zw.k0 _) ⟨hold_len (.atom _ _ rfl) (.atom _ _ rfl), hold_bool (.atom _ _ rfl) (.atom _ _ rfl) (op_lss_f (Int.not_lt.1 q1)), trivial⟩ Zw.i212 rfl rfl rowsHold_nil Zw.r212
    ·
      intro x2 g2x p10 hk
      have ⟨gl2, gh2⟩ := g2x
      have ⟨rl2, rh2⟩ := r2
      have ⟨p10l, p10h⟩ := p10
      by_cases q1 : x2 < (m0 : Int)
      ·
        by_cases q2 : x2 < (m1 : Int)
        ·
          by_cases q3 : x2 < (30 : Int)
          ·
            have l4 : (x2).toNat < m0 := by omega
            obtain ⟨p4, v4⟩ := h0.elem l4
            have w4q0 := r0q0 (x2).toNat
            have l5 : (x2).toNat < m1 := by omega
            obtain ⟨p5, v5⟩ := h1.elem l5
            cases z6 : f1q0 (x2).toNat with
            | true =>
              obtain ⟨d7, e7, g7, o7⟩ := ex_add x2 (1 : Int)
              exact Zw.nx Zw.t268 [(.int .i64 (f0q0 (x2).toNat)), (.int .i64 (m0 : Int)), (.int .i64 (m1 : Int)), (.int .i64 d7)] [p4, p5] [(.slice a0 m0 c0), (.slice a1 m1 c1), (.int .i64 d7)] (Zw.k0 _) ⟨hold_len (.atom _ _ rfl) (.atom _ _ rfl), hold_bool (.atom _ _ rfl) (.atom _ _ rfl) (op_lss_t q1), hold_len (.atom _ _ rfl) (.atom _ _ rfl), hold_bool (.atom _ _ rfl) (.atom _ _ rfl) (op_lss_t q2), hold_bool (.atom _ _ rfl) (.int _ _) (op_lss_t q3), hold_idx v4 l4 (.atom _ _ rfl) (.atom _ _ rfl) (by omega) rfl, hold_idx v5 l5 (.atom _ _ rfl) (.atom _ _ rfl) (by omega) rfl, hold_op (.atom _ _ rfl) (.int _ _) o7 (.atom _ _ rfl), trivial⟩ Zw.i268 rfl rfl (rowsHold_cons (Elem.row v4 (VL.cons (.atom _ _ rfl) VL.nil)) (rowsHold_cons (Elem.row v5 (VL.cons (vb z6) VL.nil)) rowsHold_nil)) Zw.r268 rfl rfl (ih18 d7 (by first | assumption | (constructor <;> omega) | trivial) (by constructor <;> omega) (by omega))
            | false =>
              obtain ⟨d8, e8, g8, o8⟩ := ex_add x2 (1 : Int)
              exact Zw.nx Zw.t269 [(.int .i64 (f0q0 (x2).toNat)), (.int .i64 (m0 : Int)), (.int .i64 (m1 : Int)), (.int .i64 d8)] [p4, p5] [(.slice a0 m0 c0), (.slice a1 m1 c1), (.int .i64 (f0q0 (x2).toNat)), (.int .i64 d8)] (Zw.k0 _) ⟨hold_len (.atom _ _ rfl) (.atom _ _ rfl), hold_bool (.atom _ _ rfl) (.atom _ _ rfl) (op_lss_t q1), hold_len (.atom _ _ rfl) (.atom _ _ rfl), hold_bool (.atom _ _ rfl) (.atom _ _ rfl) (op_lss_t q2), hold_bool (.atom _ _ rfl) (.int _ _) (op_lss_t q3), hold_idx v4 l4 (.atom _ _ rfl) (.atom _ _ rfl) (by omega) rfl, hold_idx v5 l5 (.atom _ _ rfl) (.atom _ _ rfl) (by omega) rfl, hold_op (.atom _ _ rfl) (.int _ _) o8 (.atom _ _ rfl), trivial⟩ Zw.i269 rfl rfl (rowsHold_cons (Elem.row v4 (VL.cons (.atom _ _ rfl) VL.nil)) (rowsHold_cons (Elem.row v5 (VL.cons (vb z6) VL.nil)) rowsHold_nil)) Zw.r269 rfl rfl (ih10 (f0q0 (x2).toNat) d8 (by first | assumption | (constructor <;> omega) | trivial) (by first | assumption | (constructor <;> omega) | trivial) (by constructor <;> omega) (by omega))
          ·
            exact Zw.fx Zw.t270 [(.int .i64 (m0 : Int)), (.int .i64 (m1 : Int))] [] (Zw.k0 _) ⟨hold_len (.atom _ _ rfl) (.atom _ _ rfl), hold_bool (.atom _ _ rfl) (.atom _ _ rfl) (op_lss_t q1), hold_len (.atom _ _ rfl) (.atom _ _ rfl), hold_bool (.atom _ _ rfl) (.atom _ _ rfl) (op_lss_t q2), hold_bool (.atom _ _ rfl) (.int _ _) (op_lss_f (Int.not_lt.1 q3)), trivial⟩ Zw.i270 rfl rfl rowsHold_nil Zw.r270
        ·
          exact Zw.fx Zw.t271 [(.int .i64 (m0 : Int)), (.int .i64 (m1 : Int))] [] (Zw.k0 _) ⟨hold_len (.atom _ _ rfl) (.atom _ _ rfl), hold_bool (.atom _ _ rfl) (.atom _ _ rfl) (op_lss_t q1), hold_len (.atom _ _ rfl) (.atom _ _ rfl), hold_bool (.atom _ _ rfl) (.atom _ _ rfl) (op_lss_f (Int.not_lt.1 q2)), trivial⟩ Zw.i271 rfl rfl rowsHold_nil Zw.r271
      ·
        exact Zw.fx Zw.t272 [(.int .i64 (m0 : Int))] [] (Zw.k0 _) ⟨hold_len (.atom _ _ rfl) (.atom _ _ rfl), hold_bool (.atom _ _ rfl) (.atom _ _ rfl) (op_lss_f (Int.not_lt.1 q1)), trivial⟩ Zw.i272 rfl rfl rowsHold_nil Zw.r272
theorem Zw.n10 {W : World} {a0 : Option Addr} {m0 c0 : Nat} {f0q0 : Nat → Int} {a1 : Option Addr} {m1 c1 : Nat} {f1q0 : Nat → Bool} {n2 : Int} (h0 : SlcOk W a0 m0 c0 1 (fun i => [.int .i64 (f0q0 i)])) (b0 : (m0 : Int) < 9223372036854775808) (r0q0 : ∀ i, R64 (f0q0 i)) (h1 : SlcOk W a1 m1 c1 1 (fun i => [.bool (f1q0 i)])) (b1 : (m1 : Int) < 9223372036854775808) (r2 : R64 n2) (x2 : Int) (x3 : Int) (g2x : R64 x2) (g3x : R64 x3) (p10 : (0 ≤ x3 ∧ x3 ≤ 30)) : NdGood Tryz.prog Tryz.f4 8 Tryz.H0 W Zw.p0 Zw.d10 [(.slice a0 m0 c0), (.slice a1 m1 c1), (.int .i64 x2), (.int .i64 x3)] :=
  ((Zw.s10 h0 b0 r0q0 h1 b1 r2 (30 - x3).toNat).1) x2 x3 g2x g3x p10 (by omega)
theorem Zw.n18 {W : World} {a0 : Option Addr} {m0 c0 : Nat} {f0q0 : Nat → Int} {a1 : Option Addr} {m1 c1 : Nat} {f1q0 : Nat → Bool} {n2 : Int} (h0 : SlcOk W a0 m0 c0 1 (fun i => [.int .i64 (f0q0 i)])) (b0 : (m0 : Int) < 9223372036854775808) (r0q0 : ∀ i, R64 (f0q0 i)) (h1 : SlcOk W a1 m1 c1 1 (fun i => [.bool (f1q0 i)])) (b1 : (m1 : Int) < 9223372036854775808) (r2 : R64 n2) (x2 : Int) (g2x : R64 x2) (p10 : (0 ≤ x2 ∧ x2 ≤ 30)) : NdGood Tryz.prog Tryz.f4 8 Tryz.H0 W Zw.p0 Zw.d18 [(.slice a0 m0 c0), (.slice a1 m1 c1), (.int .i64 x2)] :=
  ((Zw.s10 h0 b0 r0q0 h1 b1 r2 (30 - x2).toNat).2) x2 g2x p10 (by omega)
theorem Zw.s2 {W : World} {a0 : Option Addr} {m0 c0 : Nat} {f0q0 : Nat → Int} {a1 : Option Addr} {m1 c1 : Nat} {f1q0 : Nat → Bool} {n2 : Int} (h0 : SlcOk W a0 m0 c0 1 (fun i => [.int .i64 (f0q0 i)])) (b0 : (m0 : Int) < 9223372036854775808) (r0q0 : ∀ i, R64 (f0q0 i)) (h1 : SlcOk W a1 m1 c1 1 (fun i => [.bool (f1q0 i)])) (b1 : (m1 : Int) < 9223372036854775808) (r2 : R64 n2) : ∀ k : Nat, (∀ (x2 : Int) (g2x : R64 x2) (p10 : (0 ≤ x2 ∧ x2 ≤ 30)), (30 - x2) ≤ k → NdGood Tryz.prog Tryz.f4 8 Tryz.H0 W Zw.p0 Zw.d2 [(.slice a0 m0 c0), (.slice a1 m1 c1), (.int .i64 x2)]) := by
  intro k
  induction k with
  | zero =>
    intro x2 g2x p10 hk
    have ⟨gl2, gh2⟩ := g2x
    have ⟨rl2, rh2⟩ := r2
    have ⟨p10l, p10h⟩ := p10
    by_cases q1 : x2 < (m0 : Int)
    ·
      by_cases q2 : x2 < (m1 : Int)
      ·
        by_cases q3 : x2 < (30 : Int)
        ·
          have l4 : (x2).toNat < m0 := by omega
          obtain ⟨p4, v4⟩ := h0.elem l4
          have w4q0 := r0q0 (x2).toNat
          have l5 : (x2).toNat < m1 := by omega
          obtain ⟨p5, v5⟩ := h1.elem l5
          cases z6 : f1q0 (x2).toNat with
          | true =>
            obtain ⟨d7, e7, g7, o7⟩ := ex_add x2 (1 : Int)
            exfalso; omega
          | false =>
            obtain ⟨d8, e8, g8, o8⟩ := ex_add x2 (1 : Int)
            exact Zw.nx Zw.t44 [(.int .i64 (f0q0 (x2).toNat)), (.int .i64 (m0 : Int)), (.int .i64 (m1 : Int)), (.int .i64 d8)] [p4, p5] [(.slice a0 m0 c0), (.slice a1 m1 c1), (.int .i64 (f0q0 (x2).toNat)), (.int .i64 d8)] (Zw.k0 _) ⟨hold_len (.atom _ _ rfl) (.atom _ _ rfl), hold_bool (.atom _ _ rfl) (.atom _ _ rfl) (op_lss_t q1), hold_len (.atom _ _ rfl) (.atom _ _ rfl), hold_bool (.atom _ _ rfl) (.atom _ _ rfl) (op_lss_t q2), hold_bool (.atom _ _ rfl) (.int _ _) (op_lss_t q3), hold_idx v4 l4 (.atom _ _ rfl) (.atom _ _ rfl) (by omega) rfl, hold_idx v5 l5 (.atom _ _ rfl) (.atom _ _ rfl) (by omega) rfl, hold_op (.atom _ _ rfl) (.int _ _) o8 (.atom _ _ rfl), trivial⟩ Zw.i44 rfl rfl (rowsHold_cons (Elem.row v4 (VL.cons (.atom _ _ rfl) VL.nil)) (rowsHold_cons (Elem.row v5 (VL.cons (vb z6) VL.nil)) rowsHold_nil)) Zw.r44 rfl rfl (Zw.n10 h0 b0 r0q0 h1 b1 r2 (f0q0 (x2).toNat) d8 (by first | assumption | (constructor <;> omega) | trivial) (by first | assumption | (constructor <;> omega) | trivial) (by constructor <;> omega))
        ·
          exact Zw.fx Zw.t45 [(.int .i64 (m0 : Int)), (.int .i64 (m1 : Int))] [] (Zw.k0 _) ⟨hold_len (.atom _ _ rfl) (.atom _ _ rfl), hold_bool (.atom _ _ rfl) (.atom _ _ rfl) (op_lss_t q1), hold_len (.atom _ _ rfl) (.atom _ _ rfl), hold_bool (.atom _ _ rfl) (.atom _ _ rfl) (op_lss_t q2), hold_bool (.atom _ _ rfl) (.int _ _) (op_lss_f (Int.not_lt.1 q3)), trivial⟩ Zw.i45 rfl rfl rowsHold_nil Zw.r45
      ·
        exact Zw.fx Zw.t46 [(.int .i64 (m0 : Int)), (.int .i64 (m1 : Int))] [] (Zw.k0 _) ⟨hold_len (.atom _ _ rfl) (.atom _ _ rfl), hold_bool (.atom _ _ rfl) (.atom _ _ rfl) (op_lss_t q1), hold_len (.atom _ _ rfl) (.atom _ _ rfl), hold_bool (.atom _ _ rfl) (.atom _ _ rfl) (op_lss_f (Int.not_lt.1 q2)), trivial⟩ Zw.i46 rfl rfl rowsHold_nil Zw.r46
    ·
      exact Zw.fx Zw.t47 [(.int .i64 (m0 : Int))] [] (Zw.k0 _) ⟨hold_len (.atom _ _ rfl) (.atom _ _ rfl), hold_bool (.atom _ _ rfl) (.atom _ _ rfl) (op_lss_f (Int.not_lt.1 q1)), trivial⟩ Zw.i47 rfl rfl rowsHold_nil Zw.r47
  | succ k ih =>
    have ih2 := ih
    intro x2 g2x p10 hk
    have ⟨gl2, gh2⟩ := g2x
    have ⟨rl2, rh2⟩ := r2
    have ⟨p10l, p10h⟩ := p10
    by_cases q1 : x2 < (m0 : Int)
    ·
      by_cases q2 : x2 < (m1 : Int)
      ·
        by_cases q3 : x2 < (30 : Int)
        ·
          have l4 : (x2).toNat < m0 := by omega
          obtain ⟨p4, v4⟩ := h0.elem l4
          have w4q0 := r0q0 (x2).toNat
          have l5 : (x2).toNat < m1 := by omega
          obtain ⟨p5, v5⟩ := h1.elem l5
          cases z6 : f1q0 (x2).toNat with
          | true =>
            obtain ⟨d7, e7, g7, o7⟩ := ex_add x2 (1 : Int)
            exact Zw.nx Zw.t43 [(.int .i64 (f0q0 (x2).toNat)), (.int .i64 (m0 : Int)), (.int .i64 (m1 : Int)), (.int .i64 d7)] [p4, p5] [(.slice a0 m0 c0), (.slice a1 m1 c1), (.int .i64 d7)] (Zw.k0 _) ⟨hold_len (.atom _ _ rfl) (.atom _ _ rfl), hold_bool (.atom _ _ rfl) (.atom _ _ rfl) (op_lss_t q1), hold_len (.atom _ _ rfl) (.atom _ _ rfl), hold_bool (.atom _ _ rfl) (.atom _ _ rfl) (op_lss_t q2), hold_bool (.atom _ _ rfl) (.int _ _) (op_lss_t q3), hold_idx v4 l4 (.atom _ _ rfl) (.atom _ _ rfl) (by omega) rfl, hold_idx v5 l5 (.atom _ _ rfl) (.atom _ _ rfl) (by omega) rfl, hold_op (.atom _ _ rfl) (.int _ _) o7 (.atom _ _ rfl), trivial⟩ Zw.i43 rfl rfl (rowsHold_cons (Elem.row v4 (VL.cons (.atom _ _ rfl) VL.nil)) (rowsHold_cons (Elem.row v5 (VL.cons (vb z6) VL.nil)) rowsHold_nil)) Zw.r43 rfl rfl (ih2 d7 (by first | assumption | (constructor <;> omega) | trivial) (by constructor <;> omega) (by omega))
          | false =>
            obtain ⟨d8, e8, g8, o8⟩ := ex_add x2 (1 : Int)
            exact Zw.nx Zw.t44 [(.int .i64 (f0q0 (x2).toNat)), (.int .i64 (m0 : Int)), (.int .i64 (m1 : Int)), (.int .i64 d8)] [p4, p5] [(.slice a0 m0 c0), (.slice a1 m1 c1), (.int .i64 (f0q0 (x2).toNat)), (.int .i64 d8)] (Zw.k0 _) ⟨hold_len (.atom _ _ rfl) (.atom _ _ rfl), hold_bool (.atom _ _ rfl) (.atom _ _ rfl) (op_lss_t q1), hold_len (.atom _ _ rfl) (.atom _ _ rfl), hold_bool (.atom _ _ rfl) (.atom _ _ rfl) (op_lss_t q2), hold_bool (.atom _ _ rfl) (.int _ _) (op_lss_t q3), hold_idx v4 l4 (.atom _ _ rfl) (.atom _ _ rfl) (by omega) rfl, hold_idx v5 l5 (.atom _ _ rfl) (.atom _ _ rfl) (by omega) rfl, hold_op (.atom _ _ rfl) (.int _ _) o8 (.atom _ _ rfl), trivial⟩ Zw.i44 rfl rfl (rowsHold_cons (Elem.row v4 (VL.cons (.atom _ _ rfl) VL.nil)) (rowsHold_cons (Elem.row v5 (VL.cons (vb z6) VL.nil)) rowsHold_nil)) Zw.r44 rfl rfl (Zw.n10 h0 b0 r0q0 h1 b1 r2 (f0q0 (x2).toNat) d8 (by first | assumption | (constructor <;> omega) | trivial) (by first | assumption | (constructor <;> omega) | trivial) (by constructor <;> omega))
        ·
          exact Zw.fx Zw.t45 [(.int .i64 (m0 : Int)), (.int .i64 (m1 : Int))] [] (Zw.k0 _) ⟨hold_len (.atom _ _ rfl) (.atom _ _ rfl), hold_bool (.atom _ _ rfl) (.atom _ _ rfl) (op_lss_t q1), hold_len (.atom _ _ rfl) (.atom _ _ rfl), hold_bool (.atom _ _ rfl) (.atom _ _ rfl) (op_lss_t q2), hold_bool (.atom _ _ rfl) (.int _ _) (op_lss_f (Int.not_lt.1 q3)), trivial⟩ Zw.i45 rfl rfl rowsHold_nil Zw.r45
      ·
        exact Zw.fx Zw.t46 [(.int .i64 (m0 : Int)), (.int .i64 (m1 : Int))] [] (Zw.k0 _) ⟨hold_len (.atom _ _ rfl) (.atom _ _ rfl), hold_bool (.atom _ _ rfl) (.atom _ _ rfl) (op_lss_t q1), hold_len (.atom _ _ rfl) (.atom _ _ rfl), hold_bool (.atom _ _ rfl) (.atom _ _ rfl) (op_lss_f (Int.not_lt.1 q2)), trivial⟩ Zw.i46 rfl rfl rowsHold_nil Zw.r46
    ·
      exact Zw.fx Zw.t47 [(.int .i64 (m0 : Int))] [] (Zw.k0 _) ⟨hold_len (.atom _ _ rfl) (.atom _ _ rfl), hold_bool (.atom _ _ rfl) (.atom _ _ rfl) (op_lss_f (Int.not_lt.1 q1)), trivial⟩ Zw.i47 rfl rfl rowsHold_nil Zw.r47
theorem Zw.n2 {W : World} {a0 : Option Addr} {m0 c0 : Nat} {f0q0 : Nat → Int} {a1 : Option Addr} {m1 c1 : Nat} {f1q0 : Nat → Bool} {n2 : Int} (h0 : SlcOk W a0 m0 c0 1 (fun i => [.int .i64 (f0q0 i)])) (b0 : (m0 : Int) < 9223372036854775808) (r0q0 : ∀ i, R64 (f0q0 i)) (h1 : SlcOk W a1 m1 c1 1 (fun i => [.bool (f1q0 i)])) (b1 : (m1 : Int) < 9223372036854775808) (r2 : R64 n2) (x2 : Int) (g2x : R64 x2) (p10 : (0 ≤ x2 ∧ x2 ≤ 30)) : NdGood Tryz.prog Tryz.f4 8 Tryz.H0 W Zw.p0 Zw.d2 [(.slice a0 m0 c0), (.slice a1 m1 c1), (.int .i64 x2)] :=
  (Zw.s2 h0 b0 r0q0 h1 b1 r2 (30 - x2).toNat) x2 g2x p10 (by omega)
theorem Zw.s11 {W : World} {a0 : Option Addr} {m0 c0 : Nat} {f0q0 : Nat → Int} {a1 : Option Addr} {m1 c1 : Nat} {f1q0 : Nat → Bool} {n2 : Int} (h0 : SlcOk W a0 m0 c0 1 (fun i => [.int .i64 (f0q0 i)])) (b0 : (m0 : Int) < 9223372036854775808) (r0q0 : ∀ i, R64 (f0q0 i)) (h1 : SlcOk W a1 m1 c1 1 (fun i => [.bool (f1q0 i)])) (b1 : (m1 : Int) < 9223372036854775808) (r2 : R64 n2) : ∀ k : Nat, (∀ (x2 : Int) (x3 : Int) (g2x : R64 x2) (g3x : R64 x3) (p10 : (0 ≤ x3 ∧ x3 ≤ 30)), (30 - x3) ≤ k → NdGood Tryz.prog Tryz.f4 8 Tryz.H0 W Zw.p0 Zw.d11 [(.slice a0 m0 c0), (.slice a1 m1 c1), (.int .i64 x2), (.int .i64 x3)]) ∧ (∀ (x2 : Int) (g2x : R64 x2) (p10 : (0 ≤ x2 ∧ x2 ≤ 30)), (30 - x2) ≤ k → NdGood Tryz.prog Tryz.f4 8 Tryz.H0 W Zw.p0 Zw.d19 [(.slice a0 m0 c0), (.slice a1 m1 c1), (.int .i64 x2)]) := by
  intro k
  induction k with
  | zero =>
    refine ⟨?_, ?_⟩
    ·
      intro x2 x3 g2x g3x p10 hk
      have ⟨gl2, gh2⟩ := g2x
      have ⟨gl3, gh3⟩ := g3x
      have ⟨rl2, rh2⟩ := r2
      have ⟨p10l, p10h⟩ := p10
      by_cases q1 : x3 < (m0 : Int)
      ·
        by_cases q2 : x3 < (m1 : Int)
        ·
          by_cases q3 : x3 < (30 : Int)
          ·
            have l4 : (x3).toNat < m0 := by omega
            obtain ⟨p4, v4⟩ := h0.elem l4
            have w4q0 := r0q0 (x3).toNat
            have l5 : (x3).toNat < m1 := by omega
            obtain ⟨p5, v5⟩ := h1.elem l5
            cases z6 : f1q0 (x3).toNat with
            | true =>
              obtain ⟨d7, e7, g7, o7⟩ := ex_add x3 (1 : Int)
              exfalso; omega
            | false =>
              obtain ⟨d8, e8, g8, o8⟩ := ex_add x3 (1 : Int)
              exfalso; omega
          ·
            exact Zw.fx Zw.t215 [(.int .i64 (m0 : Int)), (.int .i64 (m1 : Int))] [] (Zw.k0 _) ⟨hold_len (.atom _ _ rfl) (.atom _ _ rfl), hold_bool (.atom _ _ rfl) (.atom _ _ rfl) (op_lss_t q1), hold_len (.atom _ _ rfl) (.atom _ _ rfl), hold_bool (.atom _ _ rfl) (.atom _ _ rfl) (op_lss_t q2), hold_bool (.atom _ _ rfl) (.int _ _) (op_lss_f (Int.not_lt.1 q3)), trivial⟩ Zw.i215 rfl rfl rowsHold_nil Zw.r215
        ·
          exact Zw.fx Zw.t216 [(.int .i64 (m0 : Int)), (.int .i64 (m1 : Int))] [] (Zw.k0 _) ⟨hold_len (.atom _ _ rfl) (.atom _ _ rfl), hold_bool (.atom _ _ rfl) (.atom _ _ rfl) (op_lss_t q1), hold_len (.atom _ _ rfl) (.atom _ _ rfl), hold_bool (.atom _ _ rfl) (.atom _ _ rfl) (op_lss_f (Int.not_lt.1 q2)), trivial⟩ Zw.i216 rfl rfl rowsHold_nil Zw.r216
      ·
        exact Zw.fx Zw.t217 [(.int .i64 (m0 : Int))] [] (Zw.k0 _) ⟨hold_len (.atom _ _ rfl) (.atom _ _ rfl), hold_bool (.atom _ _ rfl) (.atom _ _ rfl) (op_lss_f (Int.not_lt.1 q1)), trivial⟩ Zw.i217 rfl rfl rowsHold_nil Zw.r217
    ·
      intro x2 g2x p10 hk
      have ⟨gl2, gh2⟩ := g2x
      have ⟨rl2, rh2⟩ := r2
      have ⟨p10l, p10h⟩ := p10
      by_cases q1 : x2 < (m0 : Int)
      ·
        by_cases q2 : x2 < (m1 : Int)
        ·
          by_cases q3 : x2 < (30 : Int)
          ·
            have l4 : (x2).toNat < m0 := by omega
            obtain ⟨p4, v4⟩ := h0.elem l4
            have w4q0 := r0q0 (x2).toNat
            have l5 : (x2).toNat < m1 := by omega
            obtain ⟨p5, v5⟩ := h1.elem l5
            cases z6 : f1q0 (x2).toNat with
            | true =>
              obtain ⟨d7, e7, g7, o7⟩ := ex_add x2 (1 : Int)
              exfalso; omega
            | false =>
              obtain ⟨d8, e8, g8, o8⟩ := ex_add x2 (1 : Int)
              exfalso; omega
          ·
            exact Zw.fx Zw.t280 [(.int .i64 (m0 : Int)), (.int .i64 (m1 : Int))] [] (Zw.k0 _) ⟨hold_len (.atom _ _ rfl) (.atom _ _ rfl), hold_bool (.atom _ _ rfl) (.atom _ _ rfl) (op_lss_t q1), hold_len (.atom _ _ rfl) (.atom _ _ rfl), hold_bool (.atom _ _ rfl) (.atom _ _ rfl) (op_lss_t q2), hold_bool (.atom _ _ rfl) (.int _ _) (op_lss_f (Int.not_lt.1 q3)), trivial⟩ Zw.i280 rfl rfl rowsHold_nil Zw.r280
        ·
          exact Zw.fx Zw.t281 [(.int .i64 (m0 : Int)), (.int .i64 (m1 : Int))] [] (Zw.k0 _) ⟨hold_len (.atom _ _ rfl) (.atom _ _ rfl), hold_bool (.atom _ _ rfl) (.atom _ _ rfl) (op_lss_t q1), hold_len (.atom _ _ rfl) (.atom _ _ rfl), hold_bool (.atom _ _ rfl) (.atom _ _ rfl) (op_lss_f (Int.not_lt.1 q2)), trivial⟩ Zw.i281 rfl rfl rowsHold_nil Zw.r281
      ·
        exact Zw.fx Zw.t282 [(.int .i64 (m0 : Int))] [] (Zw.k0 _) ⟨hold_len (.atom _ _ rfl) (.atom _ _ rfl), hold_bool (.atom _ _ rfl) (.atom _ _ rfl) (op_lss_f (Int.not_lt.1 q1)), trivial⟩ Zw.i282 rfl rfl rowsHold_nil Zw.r282
  | succ k ih =>
    obtain ⟨ih11, ih19⟩ := ih
    refine ⟨?_, ?_⟩
    ·
      intro x2 x3 g2x g3x p10 hk
      have ⟨gl2, gh2⟩ := g2x
      have ⟨gl3, gh3⟩ := g3x
      have ⟨rl2, rh2⟩ := r2
      have ⟨p10l, p10h⟩ := p10
      by_cases q1 : x3 < (m0 : Int)
      ·
        by_cases q2 : x3 < (m1 : Int)
        ·
          by_cases q3 : x3 < (30 : Int)
          ·
            have l4 : (x3).toNat < m0 := by omega
            obtain ⟨p4, v4⟩ := h0.elem l4
            have w4q0 := r0q0 (x3).toNat
            have l5 : (x3).toNat < m1 := by omega
            obtain ⟨p5, v5⟩ := h1.elem l5
            cases z6 : f1q0 (x3).toNat with
            | true =>
              obtain ⟨d7, e7, g7, o7⟩ := ex_add x3 (1 : Int)
              exact Zw.nx Zw.t213 [(.int .i64 (f0q0 (x3).toNat)), (.int .i64 (m0 : Int)), (.int .i64 (m1 : Int)), (.int .i64 d7)] [p4, p5] [(.slice a0 m0 c0), (.slice a1 m1 c1), (.int .i64 d7)] (Zw.k0 _) ⟨hold_len (.atom _ _ rfl) (.atom _ _ rfl), hold_bool (.atom _ _ rfl) (.atom _ _ rfl) (op_lss_t q1), hold_len (.atom _ _ rfl) (.atom _ _ rfl), hold_bool (.atom _ _ rfl) (.atom _ _ rfl) (op_lss_t q2), hold_bool (.atom _ _ rfl) (.int _ _) (op_lss_t q3), hold_idx v4 l4 (.atom _ _ rfl) (.atom _ _ rfl) (by omega) rfl, hold_idx v5 l5 (.atom _ _ rfl) (.atom _ _ rfl) (by omega) rfl, hold_bool (.atom _ _ rfl) (.atom _ _ rfl) (op_neq_f rfl), hold_op (.atom _ _ rfl) (.int _ _) o7 (.atom _ _ rfl), trivial⟩ Zw.i213 rfl rfl (rowsHold_cons (Elem.row v4 (VL.cons (.atom _ _ rfl) VL.nil)) (rowsHold_cons (Elem.row v5 (VL.cons (vb z6) VL.nil)) rowsHold_nil)) Zw.r213 rfl rfl (ih19 d7 (by first | assumption | (constructor <;> omega) | trivial) (by constructor <;> omega) (by omega))
            | false =>
              obtain ⟨d8, e8, g8, o8⟩ := ex_add x3 (1 : Int)
              exact Zw.nx Zw.t214 [(.int .i64 (f0q0 (x3).toNat)), (.int .i64 (m0 : Int)), (.int .i64 (m1 : Int)), (.int .i64 d8)] [p4, p5] [(.slice a0 m0 c0), (.slice a1 m1 c1), (.int .i64 (f0q0 (x3).toNat)), (.int .i64 d8)] (Zw.k0 _) ⟨hold_len (.atom _ _ rfl) (.atom _ _ rfl), hold_bool (.atom _ _ rfl) (.atom _ _ rfl) (op_lss_t q1), hold_len (.atom _ _ rfl) (.atom _ _ rfl), hold_bool (.atom _ _ rfl) (.atom _ _ rfl) (op_lss_t q2), hold_bool (.atom _ _ rfl) (.int _ _) (op_lss_t q3), hold_idx v4 l4 (.atom _ _ rfl) (.atom _ _ rfl) (by omega) rfl, hold_idx v5 l5 (.atom _ _ rfl) (.atom _ _ rfl) (by omega) rfl, hold_bool (.atom _ _ rfl) (.atom _ _ rfl) (op_neq_f rfl), hold_op (.atom _ _ rfl) (.int _ _) o8 (.atom _ _ rfl), trivial⟩ Zw.i214 rfl rfl (rowsHold_cons (Elem.row v4 (VL.cons (.atom _ _ rfl) VL.nil)) (rowsHold_cons (Elem.row v5 (VL.cons (vb z6) VL.nil)) rowsHold_nil)) Zw.r214 rfl rfl (ih11 (f0q0 (x3).toNat) d8 (by first | assumption | (constructor <;> omega) | trivial) (by first | assumption | (constructor <;> omega) | trivial) (by constructor <;> omega) (by omega))
          ·
            exact Zw.fx Zw.t215 [(.int .i64 (m0 : Int)), (.int .i64 (m1 : Int))] [] (Zw.k0 _) ⟨hold_len (.atom _ _ rfl) (.atom _ _ rfl), hold_bool (.atom _ _ rfl) (.atom _ _ rfl) (op_lss_t q1), hold_len (.atom _ _ rfl) (.atom _ _ rfl), hold_bool (.atom _ _ rfl) (.atom _ _ rfl) (op_lss_t q2), hold_bool (.atom _ _ rfl) (.int _ _) (op_lss_f (Int.not_lt.1 q3)), trivial⟩ Zw.i215 rfl rfl rowsHold_nil Zw.r215
        ·
          exact Zw.fx Zw.t216 [(.int .i64 (m0 : Int)), (.int .i64 (m1 : Int))] [] (Zw.k0 _) ⟨hold_len (.atom _ _ rfl) (.atom _ _ rfl), hold_bool (.atom _ _ rfl) (.atom _ _ rfl) (op_lss_t q1), hold_len (.atom _ _ rfl) (.atom _ _ rfl), hold_bool (.atom _ _ rfl) (.atom _ _ rfl) (op_lss_f (Int.not_lt.1 q2)), trivial⟩ Zw.i216 rfl rfl rowsHold_nil Zw.r216
      ·
        exact Zw.fx Zw.t217 [(.int .i64 (m0 : Int))] [] (Zw.k0 _) ⟨hold_len (.atom _ _ rfl) (.atom _ _ rfl), hold_bool (.atom _ _ rfl) (.atom _ _ rfl) (op_lss_f (Int.not_lt.1 q1)), trivial⟩ Zw.i217 rfl rfl rowsHold_nil Zw.r217
    ·
      intro x2 g2x p10 hk
      have ⟨gl2, gh2⟩ := g2x
      have ⟨rl2, rh2⟩ := r2
      have ⟨p10l, p10h⟩ := p10
      by_cases q1 : x2 < (m0 : Int)
      ·
        by_cases q2 : x2 < (m1 : Int)
        ·
          by_cases q3 : x2 < (30 : Int)
          ·
            have l4 : (x2).toNat < m0 := by omega
            obtain ⟨p4, v4⟩ := h0.elem l4
            have w4q0 := r0q0 (x2).toNat
            have l5 : (x2).toNat < m1 := by omega
            obtain ⟨p5, v5⟩ := h1.elem l5
            cases z6 : f1q0 (x2).toNat with
            | true =>
              obtain ⟨d7, e7, g7, o7⟩ := ex_add x2 (1 : Int)
              exact Zw.nx Zw.t278 [(.int .i64 (f0q0 (x2).toNat)), (.int .i64 (m0 : Int)), (.int .i64 (m1 : Int)), (.int .i64 d7)] [p4, p5] [(.slice a0 m0 c0), (.slice a1 m1 c1), (.int .i64 d7)] (Zw.k0 _) ⟨hold_len (.atom _ _ rfl) (.atom _ _ rfl), hold_bool (.atom _ _ rfl) (.atom _ _ rfl) (op_lss_t q1), hold_len (.atom _ _ rfl) (.atom _ _ rfl), hold_bool (.atom _ _ rfl) (.atom _ _ rfl) (op_lss_t q2), hold_bool (.atom _ _ rfl) (.int _ _) (op_lss_t q3), hold_idx v4 l4 (.atom _ _ rfl) (.atom _ _ rfl) (by omega) rfl, hold_idx v5 l5 (.atom _ _ rfl) (.atom _ _ rfl) (by omega) rfl, hold_op (.atom _ _ rfl) (.int _ _) o7 (.atom _ _ rfl), trivial⟩ Zw.i278 rfl rfl (rowsHold_cons (Elem.row v4 (VL.cons (.atom _ _ rfl) VL.nil)) (rowsHold_cons (Elem.row v5 (VL.cons (vb z6) VL.nil)) rowsHold_nil)) Zw.r278 rfl rfl (ih19 d7 (by first | assumption | (constructor <;> omega) | trivial) (by constructor <;> omega) (by omega))
            | false =>
              obtain ⟨d8, e8, g8, o8⟩ := ex_add x2 (1 : Int)
              exact Zw.nx Zw.t279 [(.int .i64 (f0q0 (x2).toNat)), (.int .i64 (m0 : Int)), (.int .i64 (m1 : Int)), (.int .i64 d8)] [p4, p5] [(.slice a0 m0 c0), (.slice a1 m1 c1), (.int .i64 (f0q0 (x2).toNat)), (.int .i64 d8)] (Zw.k0 _) ⟨hold_len (.atom _ _ rfl) (.atom _ _ rfl), hold_bool (.atom _ _ rfl) (.atom _ _ rfl) (op_lss_t q1), hold_len (.atom _ _ rfl) (.atom _ _ rfl), hold_bool (.atom _ _ rfl) (.atom _ _ rfl) (op_lss_t q2), hold_bool (.atom _ _ rfl) (.int _ _) (op_lss_t q3), hold_idx v4 l4 (.atom _ _ rfl) (.atom _ _ rfl) (by omega) rfl, hold_idx v5 l5 (.atom _ _ rfl) (.atom _ _ rfl) (by omega) rfl, hold_op (.atom _ _ rfl) (.int _ _) o8 (.atom _ _ rfl), trivial⟩ Zw.i279 rfl rfl (rowsHold_cons (Elem.row v4 (VL.cons (.atom _ _ rfl) VL.nil)) (rowsHold_cons (Elem.row v5 (VL.cons (vb z6) VL.nil)) rowsHold_nil)) Zw.r279 rfl rfl (ih11 (f0q0 (x2).toNat) d8 (by first | assumption | (constructor <;> omega) | trivial) (by first | assumption | (constructor <;> omega) | trivial) (by constructor <;> omega) (by omega))
          ·
            exact Zw.fx Zw.t280 [(.int .i64 (m0 : Int)), (.int .i64 (m1 : Int))] [] (Zw.k0 _) ⟨hold_len (.atom _ _ rfl) (.atom _ _ rfl), hold_bool (.atom _ _ rfl) (.atom _ _ rfl) (op_lss_t q1), hold_len (.atom _ _ rfl) (.atom _ _ rfl), hold_bool (.atom _ _ rfl) (.atom _ _ rfl) (op_lss_t q2), hold_bool (.atom _ _ rfl) (.int _ _) (op_lss_f (Int.not_lt.1 q3)), trivial⟩ Zw.i280 rfl rfl rowsHold_nil Zw.r280
        ·
          exact Zw.fx Zw.t281 [(.int .i64 (m0 : Int)), (.int .i64 (m1 : Int))] [] (Zw.k0 _) ⟨hold_len (.atom _ _ rfl) (.atom _ _ rfl), hold_bool (.atom _ _ rfl) (.atom _ _ rfl) (op_lss_t q1), hold_len (.atom _ _ rfl) (.atom _ _ rfl), hold_bool (.atom _ _ rfl) (.atom _ _ rfl) (op_lss_f (Int.not_lt.1 q2)), trivial⟩ Zw.i281 rfl rfl rowsHold_nil Zw.r281
      ·
        exact Zw.fx Zw.t282 [(.int .i64 (m0 : Int))] [] (Zw.k0 _) ⟨hold_len (.atom _ _ rfl) (.atom _ _ rfl), hold_bool (.atom _ _ rfl) (.atom _ _ rfl) (op_lss_f (Int.not_lt.1 q1)), trivial⟩ Zw.i282 rfl rfl rowsHold_nil Zw.r282
theorem Zw.n11 {W : World} {a0 : Option Addr} {m0 c0 : Nat} {f0q0 : Nat → Int} {a1 : Option Addr} {m1 c1 : Nat} {f1q0 : Nat → Bool} {n2 : Int} (h0 : SlcOk W a0 m0 c0 1 (fun i => [.int .i64 (f0q0 i)])) (b0 : (m0 : Int) < 9223372036854775808) (r0q0 : ∀ i, R64 (f0q0 i)) (h1 : SlcOk W a1 m1 c1 1 (fun i => [.bool (f1q0 i)])) (b1 : (m1 : Int) < 9223372036854775808) (r2 : R64 n2) (x2 : Int) (x3 : Int) (g2x : R64 x2) (g3x : R64 x3) (p10 : (0 ≤ x3 ∧ x3 ≤ 30)) : NdGood Tryz.prog Tryz.f4 8 Tryz.H0 W Zw.p0 Zw.d11 [(.slice a0 m0 c0), (.slice a1 m1 c1), (.int .i64 x2), (.int .i64 x3)] :=
  ((Zw.s11 h0 b0 r0q0 h1 b1 r2 (30 - x3).toNat).1) x2 x3 g2x g3x p10 (by omega)
theorem Zw.n19 {W : World} {a0 : Option Addr} {m0 c0 : Nat} {f0q0 : Nat → Int} {a1 : Option Addr} {m1 c1 : Nat} {f1q0 : Nat → Bool} {n2 : Int} (h0 : SlcOk W a0 m0 c0 1 (fun i => [.int .i64 (f0q0 i)])) (b0 : (m0 : Int) < 9223372036854775808) (r0q0 : ∀ i, R64 (f0q0 i)) (h1 : SlcOk W a1 m1 c1 1 (fun i => [.bool (f1q0 i)])) (b1 : (m1 : Int) < 9223372036854775808) (r2 : R64 n2) (x2 : Int) (g2x : R64 x2) (p10 : (0 ≤ x2 ∧ x2 ≤ 30)) : NdGood Tryz.prog Tryz.f4 8 Tryz.H0 W Zw.p0 Zw.d19 [(.slice a0 m0 c0), (.slice a1 m1 c1), (.int .i64 x2)] :=
  ((Zw.s11 h0 b0 r0q0 h1 b1 r2 (30 - x2).toNat).2) x2 g2x p10 (by omega)
theorem Zw.s3 {W : World} {a0 : Option Addr} {m0 c0 : Nat} {f0q0 : Nat → Int} {a1 : Option Addr} {m1 c1 : Nat} {f1q0 : Nat → Bool} {n2 : Int} (h0 : SlcOk W a0 m0 c0 1 (fun i => [.int .i64 (f0q0 i)])) (b0 : (m0 : Int) < 9223372036854775808) (r0q0 : ∀ i, R64 (f0q0 i)) (h1 : SlcOk W a1 m1 c1 1 (fun i => [.bool (f1q0 i)])) (b1 : (m1 : Int) < 9223372036854775808) (r2 : R64 n2) : ∀ k : Nat, (∀ (x2 : Int) (g2x : R64 x2) (p10 : (0 ≤ x2 ∧ x2 ≤ 30)), (30 - x2) ≤ k → NdGood Tryz.prog Tryz.f4 8 Tryz.H0 W Zw.p0 Zw.d3 [(.slice a0 m0 c0), (.slice a1 m1 c1), (.int .i64 x2)]) := by
  intro k
  induction k with
  | zero =>
    intro x2 g2x p10 hk
    have ⟨gl2, gh2⟩ := g2x
    have ⟨rl2, rh2⟩ := r2
    have ⟨p10l, p10h⟩ := p10
    by_cases q1 : x2 < (m0 : Int)
    ·
      by_cases q2 : x2 < (m1 : Int)
      ·
        by_cases q3 : x2 < (30 : Int)
        ·
          have l4 : (x2).toNat < m0 := by omega
          obtain ⟨p4, v4⟩ := h0.elem l4
          have w4q0 := r0q0 (x2).toNat
          have l5 : (x2).toNat < m1 := by omega
          obtain ⟨p5, v5⟩ := h1.elem l5
          cases z6 : f1q0 (x2).toNat with
          | true =>
            obtain ⟨d7, e7, g7, o7⟩ := ex_add x2 (1 : Int)
            exfalso; omega
          | false =>
            obtain ⟨d8, e8, g8, o8⟩ := ex_add x2 (1 : Int)
            exact Zw.nx Zw.t79 [(.int .i64 (f0q0 (x2).toNat)), (.int .i64 (m0 : Int)), (.int .i64 (m1 : Int)), (.int .i64 d8)] [p4, p5] [(.slice a0 m0 c0), (.slice a1 m1 c1), (.int .i64 (f0q0 (x2).toNat)), (.int .i64 d8)] (Zw.k0 _) ⟨hold_len (.atom _ _ rfl) (.atom _ _ rfl), hold_bool (.atom _ _ rfl) (.atom _ _ rfl) (op_lss_t q1), hold_len (.atom _ _ rfl) (.atom _ _ rfl), hold_bool (.atom _ _ rfl) (.atom _ _ rfl) (op_lss_t q2), hold_bool (.atom _ _ rfl) (.int _ _) (op_lss_t q3), hold_idx v4 l4 (.atom _ _ rfl) (.atom _ _ rfl) (by omega) rfl, hold_idx v5 l5 (.atom _ _ rfl) (.atom _ _ rfl) (by omega) rfl, hold_op (.atom _ _ rfl) (.int _ _) o8 (.atom _ _ rfl), trivial⟩ Zw.i79 rfl rfl (rowsHold_cons (Elem.row v4 (VL.cons (.atom _ _ rfl) VL.nil)) (rowsHold_cons (Elem.row v5 (VL.cons (vb z6) VL.nil)) rowsHold_nil)) Zw.r79 rfl rfl (Zw.n11 h0 b0 r0q0 h1 b1 r2 (f0q0 (x2).toNat) d8 (by first | assumption | (constructor <;> omega) | trivial) (by first | assumption | (constructor <;> omega) | trivial) (by constructor <;> omega))
        ·
          exact Zw.fx Zw.t80 [(.int .i64 (m0 : Int)), (.int .i64 (m1 : Int))] [] (Zw.k0 _) ⟨hold_len (.atom _ _ rfl) (.atom _ _ rfl), hold_bool (.atom _ _ rfl) (.atom _ _ rfl) (op_lss_t q1), hold_len (.atom _ _ rfl) (.atom _ _ rfl), hold_bool (.atom _ _ rfl) (.atom _ _ rfl) (op_lss_t q2), hold_bool (.atom _ _ rfl) (.int _ _) (op_lss_f (Int.not_lt.1 q3)), trivial⟩ Zw.i80 rfl rfl rowsHold_nil Zw.r80
      ·
        exact Zw.fx Zw.t81 [(.int .i64 (m0 : Int)), (.int .i64 (m1 : Int))] [] (Zw.k0 _) ⟨hold_len (.atom _ _ rfl) (.atom _ _ rfl), hold_bool (.atom _ _ rfl) (.atom _ _ rfl) (op_lss_t q1), hold_len (.atom _ _ rfl) (.atom _ _ rfl), hold_bool (.atom _ _ rfl) (.atom _ _ rfl) (op_lss_f (Int.not_lt.1 q2)), trivial⟩ Zw.i81 rfl rfl rowsHold_nil Zw.r81
    ·
      exact Zw.fx Zw.t82 [(.int .i64 (m0 : Int))] [] (Zw.k0 _) ⟨hold_len (.atom _ _ rfl) (.atom _ _ rfl), hold_bool (.atom _ _ rfl) (.atom _ _ rfl) (op_lss_f (Int.not_lt.1 q1)), trivial⟩ Zw.i82 rfl rfl rowsHold_nil Zw.r82
  | succ k ih =>
    have ih3 := ih
    intro x2 g2x p10 hk
    have ⟨gl2, gh2⟩ := g2x
    have ⟨rl2, rh2⟩ := r2
    have ⟨p10l, p10h⟩ := p10
    by_cases q1 : x2 < (m0 : Int)
    ·
      by_cases q2 : x2 < (m1 : Int)
      ·
        by_cases q3 : x2 < (30 : Int)
        ·
          have l4 : (x2).toNat < m0 := by omega
          obtain ⟨p4, v4⟩ := h0.elem l4
          have w4q0 := r0q0 (x2).toNat
          have l5 : (x2).toNat < m1 := by omega
          obtain ⟨p5, v5⟩ := h1.elem l5
          cases z6 : f1q0 (x2).toNat with
          | true =>
            obtain ⟨d7, e7, g7, o7⟩ := ex_add x2 (1 : Int)
            exact Zw.nx Zw.t78 [(.int .i64 (f0q0 (x2).toNat)), (.int .i64 (m0 : Int)), (.int .i64 (m1 : Int)), (.int .i64 d7)] [p4, p5] [(.slice a0 m0 c0), (.slice a1 m1 c1), (.int .i64 d7)] (Zw.k0 _) ⟨hold_len (.atom _ _ rfl) (.atom _ _ rfl), hold_bool (.atom _ _ rfl) (.atom _ _ rfl) (op_lss_t q1), hold_len (.atom _ _ rfl) (.atom _ _ rfl), hold_bool (.atom _ _ rfl) (.atom _ _ rfl) (op_lss_t q2), hold_bool (.atom _ _ rfl) (.int _ _) (op_lss_t q3), hold_idx v4 l4 (.atom _ _ rfl) (.atom _ _ rfl) (by omega) rfl, hold_idx v5 l5 (.atom _ _ rfl) (.atom _ _ rfl) (by omega) rfl, hold_op (.atom _ _ rfl) (.int _ _) o7 (.atom _ _ rfl), trivial⟩ Zw.i78 rfl rfl (rowsHold_cons (Elem.row v4 (VL.cons (.atom _ _ rfl) VL.nil)) (rowsHold_cons (Elem.row v5 (VL.cons (vb z6) VL.nil)) rowsHold_nil)) Zw.r78 rfl rfl (ih3 d7 (by first | assumption | (constructor <;> omega) | trivial) (by constructor <;> omega) (by omega))
          | false =>
            obtain ⟨d8, e8, g8, o8⟩ := ex_add x2 (1 : Int)
            exact Zw.nx Zw.t79 [(.int .i64 (f0q0 (x2).toNat)), (.int .i64 (m0 : Int)), (.int .i64 (m1 : Int)), (.int .i64 d8)] [p4, p5] [(.slice a0 m0 c0), (.slice a1 m1 c1), (.int .i64 (f0q0 (x2).toNat)), (.int .i64 d8)] (Zw.k0 _) ⟨hold_len (.atom _ _ rfl) (.atom _ _ rfl), hold_bool (.atom _ _ rfl) (.atom _ _ rfl) (op_lss_t q1), hold_len (.atom _ _ rfl) (.atom _ _ rfl), hold_bool (.atom _ _ rfl) (.atom _ _ rfl) (op_lss_t q2), hold_bool (.atom _ _ rfl) (.int _ _) (op_lss_t q3), hold_idx v4 l4 (.atom _ _ rfl) (.atom _ _ rfl) (by omega) rfl, hold_idx v5 l5 (.atom _ _ rfl) (.atom _ _ rfl) (by omega) rfl, hold_op (.atom _ _ rfl) (.int _ _) o8 (.atom _ _ rfl), trivial⟩ Zw.i79 rfl rfl (rowsHold_cons (Elem.row v4 (VL.cons (.atom _ _ rfl) VL.nil)) (rowsHold_cons (Elem.row v5 (VL.cons (vb z6) VL.nil)) rowsHold_nil)) Zw.r79 rfl rfl (Zw.n11 h0 b0 r0q0 h1 b1 r2 (f0q0 (x2).toNat) d8 (by first | assumption | (constructor <;> omega) | trivial) (by first | assumption | (constructor <;> omega) | trivial) (by constructor <;> omega))
        ·
          exact Zw.fx Zw.t80 [(.int .i64 (m0 : Int)), (.int .i64 (m1 : Int))] [] (Zw.k0 _) ⟨hold_len (.atom _ _ rfl) (.atom _ _ rfl), hold_bool (.atom _ _ rfl) (.atom _ _ rfl) (op_lss_t q1), hold_len (.atom _ _ rfl) (.atom _ _ rfl), hold_bool (.atom _ _ rfl) (.atom _ _ rfl) (op_lss_t q2), hold_bool (.atom _ _ rfl) (.int _ _) (op_lss_f (Int.not_lt.1 q3)), trivial⟩ Zw.i80 rfl rfl rowsHold_nil Zw.r80
      ·
        exact Zw.fx Zw.t81 [(.int .i64 (m0 : Int)), (.int .i64 (m1 : Int))] [] (Zw.k0 _) ⟨hold_len (.atom _ _ rfl) (.atom _ _ rfl), hold_bool (.atom _ _ rfl) (.atom _ _ rfl) (op_lss_t q1), hold_len (.atom _ _ rfl) (.atom _ _ rfl), hold_bool (.atom _ _ rfl) (.atom _ _ rfl) (op_lss_f (Int.not_lt.1 q2)), trivial⟩ Zw.i81 rfl rfl rowsHold_nil Zw.r81
    ·
      exact Zw.fx Zw.t82 [(.int .i64 (m0 : Int))] [] (Zw.k0 _) ⟨hold_len (.atom _ _ rfl) (.atom _ _ rfl), hold_bool (.atom _ _ rfl) (.atom _ _ rfl) (op_lss_f (Int.not_lt.1 q1)), trivial⟩ Zw.i82 rfl rfl rowsHold_nil Zw.r82
theorem Zw.n3 {W : World} {a0 : Option Addr} {m0 c0 : Nat} {f0q0 : Nat → Int} {a1 : Option Addr} {m1 c1 : Nat} {f1q0 : Nat → Bool} {n2 : Int} (h0 : SlcOk W a0 m0 c0 1 (fun i => [.int .i64 (f0q0 i)])) (b0 : (m0 : Int) < 9223372036854775808) (r0q0 : ∀ i, R64 (f0q0 i)) (h1 : SlcOk W a1 m1 c1 1 (fun i => [.bool (f1q0 i)])) (b1 : (m1 : Int) < 9223372036854775808) (r2 : R64 n2) (x2 : Int) (g2x : R64 x2) (p10 : (0 ≤ x2 ∧ x2 ≤ 30)) : NdGood Tryz.prog Tryz.f4 8 Tryz.H0 W Zw.p0 Zw.d3 [(.slice a0 m0 c0), (.slice a1 m1 c1), (.int .i64 x2)] :=
  (Zw.s3 h0 b0 r0q0 h1 b1 r2 (30 - x2).toNat) x2 g2x p10 (by omega)
theorem Zw.s12 {W : World} {a0 : Option Addr} {m0 c0 : Nat} {f0q0 : Nat → Int} {a1 : Option Addr} {m1 c1 : Nat} {f1q0 : Nat → Bool} {n2 : Int} (h0 : SlcOk W a0 m0 c0 1 (fun i => [.int .i64 (f0q0 i)])) (b0 : (m0 : Int) < 9223372036854775808) (r0q0 : ∀ i, R64 (f0q0 i)) (h1 : SlcOk W a1 m1 c1 1 (fun i => [.bool (f1q0 i)])) (b1 : (m1 : Int) < 9223372036854775808) (r2 : R64 n2) : ∀ k : Nat, (∀ (x2 : Int) (x3 : Int) (g2x : R64 x2) (g3x : R64 x3) (p10 : (0 ≤ x3 ∧ x3 ≤ 30)), (30 - x3) ≤ k → NdGood Tryz.prog Tryz.f4 8 Tryz.H0 W Zw.p0 Zw.d12 [(.slice a0 m0 c0), (.slice a1 m1 c1), (.int .i64 x2), (.int .i64 x3)]) ∧ (∀ (x2 : Int) (g2x : R64 x2) (p10 : (0 ≤ x2 ∧ x2 ≤ 30)), (30 - x2) ≤ k → NdGood Tryz.prog Tryz.f4 8 Tryz.H0 W Zw.p0 Zw.d20 [(.slice a0 m0 c0), (.slice a1 m1 c1), (.int .i64 x2)]) := by
  intro k
  induction k with
  | zero =>
    refine ⟨?_, ?_⟩
    ·
      intro x2 x3 g2x g3x p10 hk
      have ⟨gl2, gh2⟩ := g2x
      have ⟨gl3, gh3⟩ := g3x
      have ⟨rl2, rh2⟩ := r2
      have ⟨p10l, p10h⟩ := p10
      by_cases q1 : x3 < (m0 : Int)
      ·
        by_cases q2 : x3 < (m1 : Int)
        ·
          by_cases q3 : x3 < (30 : Int)
          ·
            have l4 : (x3).toNat < m0 := by omega
            obtain ⟨p4, v4⟩ := h0.elem l4
            have w4q0 := r0q0 (x3).toNat
            have l5 : (x3).toNat < m1 := by omega
            obtain ⟨p5, v5⟩ := h1.elem l5
            cases z6 : f1q0 (x3).toNat with
            | true =>
              obtain ⟨d7, e7, g7, o7⟩ := ex_add x3 (1 : Int)
              exfalso; omega
            | false =>
              obtain ⟨d8, e8, g8, o8⟩ := ex_add x3 (1 : Int)
              exfalso; omega
          ·
            exact Zw.fx Zw.t225 [(.int .i64 (m0 : Int)), (.int .i64 (m1 : Int))] [] (Zw.k0 _) ⟨hold_len (.atom _ _ rfl) (.atom _ _ rfl), hold_bool (.atom _ _ rfl) (.atom _ _ rfl) (op_lss_t q1), hold_len (.atom _ _ rfl) (.atom _ _ rfl), hold_bool (.atom _ _ rfl) (.atom _ _ rfl) (op_lss_t q2), hold_bool (.atom _ _ rfl) (.int _ _) (op_lss_f (Int.not_lt.1 q3)), trivial⟩ Zw.i225 rfl rfl rowsHold_nil Zw.r225
        ·
          exact Zw.fx Zw.t226 [(.int .i64 (m0 : Int)), (.int .i64 (m1 : Int))] [] (Zw.k0 _) ⟨hold_len (.atom _ _ rfl) (.atom _ _ rfl), hold_bool (.atom _ _ rfl) (.atom _ _ rfl) (op_lss_t q1), hold_len (.atom _ _ rfl) (.atom _ _ rfl), hold_bool (.atom _ _ rfl) (.atom _ _ rfl) (op_lss_f (Int.not_lt.1 q2)), trivial⟩ Zw.i226 rfl rfl rowsHold_nil Zw.r226
      ·
        exact Zw.fx Zw.t227 [(.int .i64 (m0 : Int))] [] (Zw.k0 _) ⟨hold_len (.atom _ _ rfl) (.atom _ _ rfl), hold_bool (.atom _ _ rfl) (.atom _ _ rfl) (op_lss_f (Int.not_lt.1 q1)), trivial⟩ Zw.i227 rfl rfl rowsHold_nil Zw.r227
    ·
      intro x2 g2x p10 hk
      have ⟨gl2, gh2⟩ := g2x
      have ⟨rl2, rh2⟩ := r2
      have ⟨p10l, p10h⟩ := p10
      by_cases q1 : x2 < (m0 : Int)
      ·
        by_cases q2 : x2 < (m1 : Int)
        ·
          by_cases q3 : x2 < (30 : Int)
          ·
            have l4 : (x2).toNat < m0 := by omega
            obtain ⟨p4, v4⟩ := h0.elem l4
            have w4q0 := r0q0 (x2).toNat
            have l5 : (x2).toNat < m1 := by omega
            obtain ⟨p5, v5⟩ := h1.elem l5
            cases z6 : f1q0 (x2).toNat with
            | true =>
              obtain ⟨d7, e7, g7, o7⟩ := ex_add x2 (1 : Int)
              exfalso; omega
            | false =>
              obtain ⟨d8, e8, g8, o8⟩ := ex_add x2 (1 : Int)
              exfalso; omega
          ·
            exact Zw.fx Zw.t295 [(.int .i64 (m0 : Int)), (.int .i64 (m1 : Int))] [] (Zw.k0 _) ⟨hold_len (.atom _ _ rfl) (.atom _ _ rfl), hold_bool (.atom _ _ rfl) (.atom _ _ rfl) (op_lss_t q1), hold_len (.atom _ _ rfl) (.atom _ _ rfl), hold_bool (.atom _ _ rfl) (.atom _ _ rfl) (op_lss_t q2), hold_bool (.atom _ _ rfl) (.int _ _) (op_lss_f (Int.not_lt.1 q3)), trivial⟩ Zw.i295 rfl rfl rowsHold_nil Zw.r295
        ·
          exact Zw.fx Zw.t296 [(.int .i64 (m0 : Int)), (.int .i64 (m1 : Int))] [] (Zw.k0 _) ⟨hold_len (.atom _ _ rfl) (.atom _ _ rfl), hold_bool (.atom _ _ rfl) (.atom _ _ rfl) (op_lss_t q1), hold_len (.atom _ _ rfl) (.atom _ _ rfl), hold_bool (.atom _ _ rfl) (.atom _ _ rfl) (op_lss_f (Int.not_lt.1 q2)), trivial⟩ Zw.i296 rfl rfl rowsHold_nil Zw.r296
      ·
        exact Zw.fx Zw.t297 [(.int .i64 (m0 : Int))] [] (Zw.k0 _) ⟨hold_len (.atom _ _ rfl) (.atom _ _ rfl), hold_bool (.atom _ _ rfl) (.atom _ _ rfl) (op_lss_f (Int.not_lt.1 q1)), trivial⟩ Zw.i297 rfl rfl rowsHold_nil Zw.r297
  | succ k ih =>
    obtain ⟨ih12, ih20⟩ := ih
    refine ⟨?_, ?_⟩
    ·
      intro x2 x3 g2x g3x p10 hk
      have ⟨gl2, gh2⟩ := g2x
      have ⟨gl3, gh3⟩ := g3x
      have ⟨rl2, rh2⟩ := r2
      have ⟨p10l, p10h⟩ := p10
      by_cases q1 : x3 < (m0 : Int)
      ·
        by_cases q2 : x3 < (m1 : Int)
        ·
          by_cases q3 : x3 < (30 : Int)
          ·
            have l4 : (x3).toNat < m0 := by omega
            obtain ⟨p4, v4⟩ := h0.elem l4
            have w4q0 := r0q0 (x3).toNat
            have l5 : (x3).toNat < m1 := by omega
            obtain ⟨p5, v5⟩ := h1.elem l5
            cases z6 : f1q0 (x3).toNat with
            | true =>
              obtain ⟨d7, e7, g7, o7⟩ := ex_add x3 (1 : Int)
              exact Zw.nx Zw.t223 [(.int .i64 (f0q0 (x3).toNat)), (.int .i64 (m0 : Int)), (.int .i64 (m1 : Int)), (.int .i64 d7)] [p4, p5] [(.slice a0 m0 c0), (.slice a1 m1 c1), (.int .i64 d7)] (Zw.k0 _) ⟨hold_len (.atom _ _ rfl) (.atom _ _ rfl), hold_bool (.atom _ _ rfl) (.atom _ _ rfl) (op_lss_t q1), hold_len (.atom _ _ rfl) (.atom _ _ rfl), hold_bool (.atom _ _ rfl) (.atom _ _ rfl) (op_lss_t q2), hold_bool (.atom _ _ rfl) (.int _ _) (op_lss_t q3), hold_idx v4 l4 (.atom _ _ rfl) (.atom _ _ rfl) (by omega) rfl, hold_idx v5 l5 (.atom _ _ rfl) (.atom _ _ rfl) (by omega) rfl, hold_bool (.atom _ _ rfl) (.atom _ _ rfl) (op_neq_f rfl), hold_op (.atom _ _ rfl) (.int _ _) o7 (.atom _ _ rfl), trivial⟩ Zw.i223 rfl rfl (rowsHold_cons (Elem.row v4 (VL.cons (.atom _ _ rfl) VL.nil)) (rowsHold_cons (Elem.row v5 (VL.cons (vb z6) VL.nil)) rowsHold_nil)) Zw.r223 rfl rfl (ih20 d7 (by first | assumption | (constructor <;> omega) | trivial) (by constructor <;> omega) (by omega))
            | false =>
              obtain ⟨d8, e8, g8, o8⟩ := ex_add x3 (1 : Int)
              exact Zw.nx Zw.t224 [(.int .i64 (f0q0 (x3).toNat)), (.int .i64 (m0 : Int)), (.int .i64 (m1 : Int)), (.int .i64 d8)] [p4, p5] [(.slice a0 m0 c0), (.slice a1 m1 c1), (.int .i64 (f0q0 (x3).toNat)), (.int .i64 d8)] (Zw.k0 _) ⟨hold_len (.atom _ _ rfl) (.atom _ _ rfl), hold_bool (.atom _ _ rfl) (.atom _ _ rfl) (op_lss_t q1), hold_len (.atom _ _ rfl) (.atom _ _ rfl), hold_bool (.atom _ _ rfl) (.atom _ _ rfl) (op_lss_t q2), hold_bool (.atom _ _ rfl) (.int _ _) (op_lss_t q3), hold_idx v4 l4 (.atom _ _ rfl) (.atom _ _ rfl) (by omega) rfl, hold_idx v5 l5 (.atom _ _ rfl) (.atom _ _ rfl) (by omega) rfl, hold_bool (.atom _ _ rfl) (.atom _ _ rfl) (op_neq_f rfl), hold_op (.atom _ _ rfl) (.int _ _) o8 (.atom _ _ rfl), trivial⟩ Zw.i224 rfl rfl (rowsHold_cons (Elem.row v4 (VL.cons (.atom _ _ rfl) VL.nil)) (rowsHold_cons (Elem.row v5 (VL.cons (vb z6) VL.nil)) rowsHold_nil)) Zw.r224 rfl rfl (ih12 (f0q0 (x3).toNat) d8 (by first | assumption | (constructor <;> omega) | trivial) (by first | assumption | (constructor <;> omega) | trivial) (by constructor <;> omega) (by omega))
          ·
            exact Zw.fx Zw.t225 [(.int .i64 (m0 : Int)), (.int .i64 (m1 : Int))] [] (Zw.k0 _) ⟨hold_len (.atom _ _ rfl) (.atom _ _ rfl), hold_bool (.atom _ _ rfl) (.atom _ _ rfl) (op_lss_t q1), hold_len (.atom _ _ rfl) (.atom _ _ rfl), hold_bool (.atom _ _ rfl) (.atom _ _ rfl) (op_lss_t q2), hold_bool (.atom _ _ rfl) (.int _ _) (op_lss_f (Int.not_lt.1 q3)), trivial⟩ Zw.i225 rfl rfl rowsHold_nil Zw.r225
        ·
          exact Zw.fx Zw.t226 [(.int .i64 (m0 : Int)), (.int .i64 (m1 : Int))] [] (Zw.k0 _) ⟨hold_len (.atom _ _ rfl) (.atom _ _ rfl), hold_bool (.atom _ _ rfl) (.atom _ _ rfl) (op_lss_t q1), hold_len (.atom _ _ rfl) (.atom _ _ rfl), hold_bool (.atom _ _ rfl) (.atom _ _ rfl) (op_lss_f (Int.not_lt.1 q2)), trivial⟩ Zw.i226 rfl rfl rowsHold_nil Zw.r226
      ·
        exact Zw.fx Zw.t227 [(.int .i64 (m0 : Int))] [] (Zw.k0 _) ⟨hold_len (.atom _ _ rfl) (.atom _ _ rfl), hold_bool (.atom _ _ rfl) (.atom _ _ rfl) (op_lss_f (Int.not_lt.1 q1)), trivial⟩ Zw.i227 rfl rfl rowsHold_nil Zw.r227
    ·
      intro x2 g2x p10 hk
      have ⟨gl2, gh2⟩ := g2x
      have ⟨rl2, rh2⟩ := r2
      have ⟨p10l, p10h⟩ := p10
      by_cases q1 : x2 < (m0 : Int)
      ·
        by_cases q2 : x2 < (m1 : Int)
        ·
          by_cases q3 : x2 < (30 : Int)
          ·
            have l4 : (x2).toNat < m0 := by omega
            obtain ⟨p4, v4⟩ := h0.elem l4
            have w4q0 := r0q0 (x2).toNat
            have l5 : (x2).toNat < m1 := by omega
            obtain ⟨p5, v5⟩ := h1.elem l5
            cases z6 : f1q0 (x2).toNat with
            | true =>
              obtain ⟨d7, e7, g7, o7⟩ := ex_add x2 (1 : Int)
              exact Zw.nx Zw.t293 [(.int .i64 (f0q0 (x2).toNat)), (.int .i64 (m0 : Int)), (.int .i64 (m1 : Int)), (.int .i64 d7)] [p4, p5] [(.slice a0 m0 c0), (.slice a1 m1 c1), (.int .i64 d7)] (Zw.k0 _) ⟨hold_len (.atom _ _ rfl) (.atom _ _ rfl), hold_bool (.atom _ _ rfl) (.atom _ _ rfl) (op_lss_t q1), hold_len (.atom _ _ rfl) (.atom _ _ rfl), hold_bool (.atom _ _ rfl) (.atom _ _ rfl) (op_lss_t q2), hold_bool (.atom _ _ rfl) (.int _ _) (op_lss_t q3), hold_idx v4 l4 (.atom _ _ rfl) (.atom _ _ rfl) (by omega) rfl, hold_idx v5 l5 (.atom _ _ rfl) (.atom _ _ rfl) (by omega) rfl, hold_op (.atom _ _ rfl) (.int _ _) o7 (.atom _ _ rfl), trivial⟩ Zw.i293 rfl rfl (rowsHold_cons (Elem.row v4 (VL.cons (.atom _ _ rfl) VL.nil)) (rowsHold_cons (Elem.row v5 (VL.cons (vb z6) VL.nil)) rowsHold_nil)) Zw.r293 rfl rfl (ih20 d7 (by first | assumption | (constructor <;> omega) | trivial) (by constructor <;> omega) (by omega))
            | false =>
              obtain ⟨d8, e8, g8, o8⟩ := ex_add x2 (1 : Int)
              exact Zw.nx Zw.t294 [(.int .i64 (f0q0 (x2).toNat)), (.int .i64 (m0 : Int)), (.int .i64 (m1 : Int)), (.int .i64 d8)] [p4, p5] [(.slice a0 m0 c0), (.slice a1 m1 c1), (.int .i64 (f0q0 (x2).toNat)), (.int .i64 d8)] (Zw.k0 _) ⟨hold_len (.atom _ _ rfl) (.atom _ _ rfl), hold_bool (.atom _ _ rfl) (.atom _ _ rfl) (op_lss_t q1), hold_len (.atom _ _ rfl) (.atom _ _ rfl), hold_bool (.atom _ _ rfl) (.atom _ _ rfl) (op_lss_t q2), hold_bool (.atom _ _ rfl) (.int _ _) (op_lss_t q3), hold_idx v4 l4 (.atom _ _ rfl) (.atom _ _ rfl) (by omega) rfl, hold_idx v5 l5 (.atom _ _ rfl) (.atom _ _ rfl) (by omega) rfl, hold_op (.atom _ _ rfl) (.int _ _) o8 (.atom _ _ rfl), trivial⟩ Zw.i294 rfl rfl (rowsHold_cons (Elem.row v4 (VL.cons (.atom _ _ rfl) VL.nil)) (rowsHold_cons (Elem.row v5 (VL.cons (vb z6) VL.nil)) rowsHold_nil)) Zw.r294 rfl rfl (ih12 (f0q0 (x2).toNat) d8 (by first | assumption | (constructor <;> omega) | trivial) (by first | assumption | (constructor <;> omega) | trivial) (by constructor <;> omega) (by omega))
          ·
            exact Zw.fx Zw.t295 [(.int .i64 (m0 : Int)), (.int .i64 (m1 : Int))] [] (Zw.k0 _) ⟨hold_len (.atom _ _ rfl) (.atom _ _ rfl), hold_bool (.atom _ _ rfl) (.atom _ _ rfl) (op_lss_t q1), hold_len (.atom _ _ rfl) (.atom _ _ rfl), hold_bool (.atom _ _ rfl) (.atom _ _ rfl) (op_lss_t q2), hold_bool (.atom _ _ rfl) (.int _ _) (op_lss_f (Int.not_lt.1 q3)), trivial⟩ Zw.i295 rfl rfl rowsHold_nil Zw.r295
        ·
          exact Zw.fx Zw.t296 [(.int .i64 (m0 : Int)), (.int .i64 (m1 : Int))] [] (Zw.k0 _) ⟨hold_len (.atom _ _ rfl) (.atom _ _ rfl), hold_bool (.atom _ _ rfl) (.atom _ _ rfl) (op_lss_t q1), hold_len (.atom _ _ rfl) (.atom _ _ rfl), hold_bool (.atom _ _ rfl) (.atom _ _ rfl) (op_lss_f (Int.not_lt.1 q2)), trivial⟩ Zw.i296 rfl rfl rowsHold_nil Zw.r296
      ·
        exact Zw.fx Zw.t297 [(.int .i64 (m0 : Int))] [] (Zw.k0 _) ⟨hold_len (.atom _ _ rfl) (.atom _ _ rfl), hold_bool (.atom _ _ rfl) (.atom _ _ rfl) (op_lss_f (Int.not_lt.1 q1)), trivial⟩ Zw.i297 rfl rfl rowsHold_nil Zw.r297
theorem Zw.n12 {W : World} {a0 : Option Addr} {m0 c0 : Nat} {f0q0 : Nat → Int} {a1 : Option Addr} {m1 c1 : Nat} {f1q0 : Nat → Bool} {n2 : Int} (h0 : SlcOk W a0 m0 c0 1 (fun i => [.int .i64 (f0q0 i)])) (b0 : (m0 : Int) < 9223372036854775808) (r0q0 : ∀ i, R64 (f0q0 i)) (h1 : SlcOk W a1 m1 c1 1 (fun i => [.bool (f1q0 i)])) (b1 : (m1 : Int) < 9223372036854775808) (r2 : R64 n2) (x2 : Int) (x3 : Int) (g2x : R64 x2) (g3x : R64 x3) (p10 : (0 ≤ x3 ∧ x3 ≤ 30)) : NdGood Tryz.prog Tryz.f4 8 Tryz.H0 W Zw.p0 Zw.d12 [(.slice a0 m0 c0), (.slice a1 m1 c1), (.int .i64 x2), (.int .i64 x3)] :=
  ((Zw.s12 h0 b0 r0q0 h1 b1 r2 (30 - x3).toNat).1) x2 x3 g2x g3x p10 (by omega)
theorem Zw.n20 {W : World} {a0 : Option Addr} {m0 c0 : Nat} {f0q0 : Nat → Int} {a1 : Option Addr} {m1 c1 : Nat} {f1q0 : Nat → Bool} {n2 : Int} (h0 : SlcOk W a0 m0 c0 1 (fun i => [.int .i64 (f0q0 i)])) (b0 : (m0 : Int) < 9223372036854775808) (r0q0 : ∀ i, R64 (f0q0 i)) (h1 : SlcOk W a1 m1 c1 1 (fun i => [.bool (f1q0 i)])) (b1 : (m1 : Int) < 9223372036854775808) (r2 : R64 n2) (x2 : Int) (g2x : R64 x2) (p10 : (0 ≤ x2 ∧ x2 ≤ 30)) : NdGood Tryz.prog Tryz.f4 8 Tryz.H0 W Zw.p0 Zw.d20 [(.slice a0 m0 c0), (.slice a1 m1 c1), (.int .i64 x2)] :=
  ((Zw.s12 h0 b0 r0q0 h1 b1 r2 (30 - x2).toNat).2) x2 g2x p10 (by omega)
theorem Zw.s4 {W : World} {a0 : Option Addr} {m0 c0 : Nat} {f0q0 : Nat → Int} {a1 : Option Addr} {m1 c1 : Nat} {f1q0 : Nat → Bool} {n2 : Int} (h0 : SlcOk W a0 m0 c0 1 (fun i => [.int .i64 (f0q0 i)])) (b0 : (m0 : Int) < 9223372036854775808) (r0q0 : ∀ i, R64 (f0q0 i)) (h1 : SlcOk W a1 m1 c1 1 (fun i => [.bool (f1q0 i)])) (b1 : (m1 : Int) < 9223372036854775808) (r2 : R64 n2) : ∀ k : Nat, (∀ (x2 : Int) (g2x : R64 x2) (p10 : (0 ≤ x2 ∧ x2 ≤ 30)), (30 - x2) ≤ k → NdGood Tryz.prog Tryz.f4 8 Tryz.H0 W Zw.p0 Zw.d4 [(.slice a0 m0 c0), (.slice a1 m1 c1), (.int .i64 x2)]) := by
  intro k
  induction k with
  | zero =>
    intro x2 g2x p10 hk
    have ⟨gl2, gh2⟩ := g2x
    have ⟨rl2, rh2⟩ := r2
    have ⟨p10l, p10h⟩ := p10
    by_cases q1 : x2 < (m0 : Int)
    ·
      by_cases q2 : x2 < (m1 : Int)
      ·
        by_cases q3 : x2 < (30 : Int)
        ·
          have l4 : (x2).toNat < m0 := by omega
          obtain ⟨p4, v4⟩ := h0.elem l4
          have w4q0 := r0q0 (x2).toNat
          have l5 : (x2).toNat < m1 := by omega
          obtain ⟨p5, v5⟩ := h1.elem l5
          cases z6 : f1q0 (x2).toNat with
          | true =>
            obtain ⟨d7, e7, g7, o7⟩ := ex_add x2 (1 : Int)
            exfalso; omega
          | false =>
            obtain ⟨d8, e8, g8, o8⟩ := ex_add x2 (1 : Int)
            exact Zw.nx Zw.t99 [(.int .i64 (f0q0 (x2).toNat)), (.int .i64 (m0 : Int)), (.int .i64 (m1 : Int)), (.int .i64 d8)] [p4, p5] [(.slice a0 m0 c0), (.slice a1 m1 c1), (.int .i64 (f0q0 (x2).toNat)), (.int .i64 d8)] (Zw.k0 _) ⟨hold_len (.atom _ _ rfl) (.atom _ _ rfl), hold_bool (.atom _ _ rfl) (.atom _ _ rfl) (op_lss_t q1), hold_len (.atom _ _ rfl) (.atom _ _ rfl), hold_bool (.atom _ _ rfl) (.atom _ _ rfl) (op_lss_t q2), hold_bool (.atom _ _ rfl) (.int _ _) (op_lss_t q3), hold_idx v4 l4 (.atom _ _ rfl) (.atom _ _ rfl) (by omega) rfl, hold_idx v5 l5 (.atom _ _ rfl) (.atom _ _ rfl) (by omega) rfl, hold_op (.atom _ _ rfl) (.int _ _) o8 (.atom _ _ rfl), trivial⟩ Zw.i99 rfl rfl (rowsHold_cons (Elem.row v4 (VL.cons (.atom _ _ rfl) VL.nil)) (rowsHold_cons (Elem.row v5 (VL.cons (vb z6) VL.nil)) rowsHold_nil)) Zw.r99 rfl rfl (Zw.n12 h0 b0 r0q0 h1 b1 r2 (f0q0 (x2).toNat) d8 (by first | assumption | (constructor <;> omega) | trivial) (by first | assumption | (constructor <;> omega) | trivial) (by constructor <;> omega))
        ·
          exact Zw.fx Zw.t100 [(.int .i64 (m0 : Int)), (.int .i64 (m1 : Int))] [] (Zw.k0 _) ⟨hold_len (.atom _ _ rfl) (.atom _ _ rfl), hold_bool (.atom _ _ rfl) (.atom _ _ rfl) (op_lss_t q1), hold_len (.atom _ _ rfl) (.atom _ _ rfl), hold_bool (.atom _ _ rfl) (.atom _ _ rfl) (op_lss_t q2), hold_bool (.atom _ _ rfl) (.int _ _) (op_lss_f (Int.not_lt.1 q3)), trivial⟩ Zw.i100 rfl rfl rowsHold_nil Zw.r100
      ·
        exact Zw.fx Zw.t101 [(.int .i64 (m0 : Int)), (.int .i64 (m1 : Int))] [] (Zw.k0 _) ⟨hold_len (.atom _ _ rfl) (.atom _ _ rfl), hold_bool (.atom _ _ rfl) (.atom _ _ rfl) (op_lss_t q1), hold_len (.atom _ _ rfl) (.atom _ _ rfl), hold_bool (.atom _ _ rfl) (.atom _ _ rfl) (op_lss_f (Int.not_lt.1 q2)), trivial⟩ Zw.i101 rfl rfl rowsHold_nil Zw.r101
    ·
      exact Zw.fx Zw.t102 [(.int .i64 (m0 : Int))] [] (Zw.k0 _) ⟨hold_len (.atom _ _ rfl) (.atom _ _ rfl), hold_bool (.atom _ _ rfl) (.atom _ _ rfl) (op_lss_f (Int.not_lt.1 q1)), trivial⟩ Zw.i102 rfl rfl rowsHold_nil Zw.r102
  | succ k ih =>
    have ih4 := ih
    intro x2 g2x p10 hk
    have ⟨gl2, gh2⟩ := g2x
    have ⟨rl2, rh2⟩ := r2
    have ⟨p10l, p10h⟩ := p10
    by_cases q1 : x2 < (m0 : Int)
    ·
      by_cases q2 : x2 < (m1 : Int)
      ·
        by_cases q3 : x2 < (30 : Int)
        ·
          have l4 : (x2).toNat < m0 := by omega
          obtain ⟨p4, v4⟩ := h0.elem l4
          have w4q0 := r0q0 (x2).toNat
          have l5 : (x2).toNat < m1 := by omega
          obtain ⟨p5, v5⟩ := h1.elem l5
          cases z6 : f1q0 (x2).toNat with
          | true =>
            obtain ⟨d7, e7, g7, o7⟩ := ex_add x2 (1 : Int)
            exact Zw.nx Zw.t98 [(.int .i64 (f0q0 (x2).toNat)), (.int .i64 (m0 : Int)), (.int .i64 (m1 : Int)), (.int .i64 d7)] [p4, p5] [(.slice a0 m0 c0), (.slice a1 m1 c1), (.int .i64 d7)] (Zw.k0 _) ⟨hold_len (.atom _ _ rfl) (.atom _ _ rfl), hold_bool (.atom _ _ rfl) (.atom _ _ rfl) (op_lss_t q1), hold_len (.atom _ _ rfl) (.atom _ _ rfl), hold_bool (.atom _ _ rfl) (.atom _ _ rfl) (op_lss_t q2), hold_bool (.atom _ _ rfl) (.int _ _) (op_lss_t q3), hold_idx v4 l4 (.atom _ _ rfl) (.atom _ _ rfl) (by omega) rfl, hold_idx v5 l5 (.atom _ _ rfl) (.atom _ _ rfl) (by omega) rfl, hold_op (.atom _ _ rfl) (.int _ _) o7 (.atom _ _ rfl), trivial⟩ Zw.i98 rfl rfl (rowsHold_cons (Elem.row v4 (VL.cons (.atom _ _ rfl) VL.nil)) (rowsHold_cons (Elem.row v5 (VL.cons (vb z6) VL.nil)) rowsHold_nil)) Zw.r98 rfl rfl (ih4 d7 (by first | assumption | (constructor <;> omega) | trivial) (by constructor <;> omega) (by omega))
          | false =>
            obtain ⟨d8, e8, g8, o8⟩ := ex_add x2 (1 : Int)
            exact Zw.nx Zw.t99 [(.int .i64 (f0q0 (x2).toNat)), (.int .i64 (m0 : Int)), (.int .i64 (m1 : Int)), (.int .i64 d8)] [p4, p5] [(.slice a0 m0 c0), (.slice a1 m1 c1), (.int .i64 (f0q0 (x2).toNat)), (.int .i64 d8)] (Zw.k0 _) ⟨hold_len (.atom _ _ rfl) (.atom _ _ rfl), hold_bool (.atom _ _ rfl) (.atom _ _ rfl) (op_lss_t q1), hold_len (.atom _ _ rfl) (.atom _ _ rfl), hold_bool (.atom _ _ rfl) (.atom _ _ rfl) (op_lss_t q2), hold_bool (.atom _ _ rfl) (.int _ _) (op_lss_t q3), hold_idx v4 l4 (.atom _ _ rfl) (.atom _ _ rfl) (by omega) rfl, hold_idx v5 l5 (.atom _ _ rfl) (.atom _ _ rfl) (by omega) rfl, hold_op (.atom _ _ rfl) (.int _ _) o8 (.atom _ _ rfl), trivial⟩ Zw.i99 rfl rfl (rowsHold_cons (Elem.row v4 (VL.cons (.atom _ _ rfl) VL.nil)) (rowsHold_cons (Elem.row v5 (VL.cons (vb z6) VL.nil)) rowsHold_nil)) Zw.r99 rfl rfl (Zw.n12 h0 b0 r0q0 h1 b1 r2 (f0q0 (x2).toNat) d8 (by first | assumption | (constructor <;> omega) | trivial) (by first | assumption | (constructor <;> omega) | trivial) (by constructor <;> omega))
        ·
          exact Zw.fx Zw.t100 [(.int .i64 (m0 : Int)), (.int .i64 (m1 : Int))] [] (Zw.k0 _) ⟨hold_len (.atom _ _ rfl) (.atom _ _ rfl), hold_bool (.atom _ _ rfl) (.atom _ _ rfl) (op_lss_t q1), hold_len (.atom _ _ rfl) (.atom _ _ rfl), hold_bool (.atom _ _ rfl) (.atom _ _ rfl) (op_lss_t q2), hold_bool (.atom _ _ rfl) (.int _ _) (op_lss_f (Int.not_lt.1 q3)), trivial⟩ Zw.i100 rfl rfl rowsHold_nil Zw.r100
      ·
        exact Zw.fx Zw.t101 [(.int .i64 (m0 : Int)), (.int .i64 (m1 : Int))] [] (Zw.k0 _) ⟨hold_len (.atom _ _ rfl) (.atom _ _ rfl), hold_bool (.atom _ _ rfl) (.atom _ _ rfl) (op_lss_t q1), hold_len (.atom _ _ rfl) (.atom _ _ rfl), hold_bool (.atom _ _ rfl) (.atom _ _ rfl) (op_lss_f (Int.not_lt.1 q2)), trivial⟩ Zw.i101 rfl rfl rowsHold_nil Zw.r101
    ·
      exact Zw.fx Zw.t102 [(.int .i64 (m0 : Int))] [] (Zw.k0 _) ⟨hold_len (.atom _ _ rfl) (.atom _ _ rfl), hold_bool (.atom _ _ rfl) (.atom _ _ rfl) (op_lss_f (Int.not_lt.1 q1)), trivial⟩ Zw.i102 rfl rfl rowsHold_nil Zw.r102
theorem Zw.n4 {W : World} {a0 : Option Addr} {m0 c0 : Nat} {f0q0 : Nat → Int} {a1 : Option Addr} {m1 c1 : Nat} {f1q0 : Nat → Bool} {n2 : Int} (h0 : SlcOk W a0 m0 c0 1 (fun i => [.int .i64 (f0q0 i)])) (b0 : (m0 : Int) < 9223372036854775808) (r0q0 : ∀ i, R64 (f0q0 i)) (h1 : SlcOk W a1 m1 c1 1 (fun i => [.bool (f1q0 i)])) (b1 : (m1 : Int) < 9223372036854775808) (r2 : R64 n2) (x2 : Int) (g2x : R64 x2) (p10 : (0 ≤ x2 ∧ x2 ≤ 30)) : NdGood Tryz.prog Tryz.f4 8 Tryz.H0 W Zw.p0 Zw.d4 [(.slice a0 m0 c0), (.slice a1 m1 c1), (.int .i64 x2)] :=
  (Zw.s4 h0 b0 r0q0 h1 b1 r2 (30 - x2).toNat) x2 g2x p10 (by omega)
theorem Zw.s13 {W : World} {a0 : Option Addr} {m0 c0 : Nat} {f0q0 : Nat → Int} {a1 : Option Addr} {m1 c1 : Nat} {f1q0 : Nat → Bool} {n2 : Int} (h0 : SlcOk W a0 m0 c0 1 (fun i => [.int .i64 (f0q0 i)])) (b0 : (m0 : Int) < 9223372036854775808) (r0q0 : ∀ i, R64 (f0q0 i)) (h1 : SlcOk W a1 m1 c1 1 (fun i => [.bool (f1q0 i)])) (b1 : (m1 : Int) < 9223372036854775808) (r2 : R64 n2) : ∀ k : Nat, (∀ (x2 : Int) (x3 : Int) (g2x : R64 x2) (g3x : R64 x3) (p10 : (0 ≤ x3 ∧ x3 ≤ 30)), (30 - x3) ≤ k → NdGood Tryz.prog Tryz.f4 8 Tryz.H0 W Zw.p0 Zw.d13 [(.slice a0 m0 c0), (.slice a1 m1 c1), (.int .i64 x2), (.int .i64 x3)]) ∧ (∀ (x2 : Int) (g2x : R64 x2) (p10 : (0 ≤ x2 ∧ x2 ≤ 30)), (30 - x2) ≤ k → NdGood Tryz.prog Tryz.f4 8 Tryz.H0 W Zw.p0 Zw.d21 [(.slice a0 m0 c0), (.slice a1 m1 c1), (.int .i64 x2)]) := by
  intro k
  induction k with
  | zero =>
    refine ⟨?_, ?_⟩
    ·
      intro x2 x3 g2x g3x p10 hk
      have ⟨gl2, gh2⟩ := g2x
      have ⟨gl3, gh3⟩ := g3x
      have ⟨rl2, rh2⟩ := r2
      have ⟨p10l, p10h⟩ := p10
      by_cases q1 : x3 < (m0 : Int)
      ·
        by_cases q2 : x3 < (m1 : Int)
        ·
          by_cases q3 : x3 < (30 : Int)
          ·
            have l4 : (x3).toNat < m0 := by omega
            obtain ⟨p4, v4⟩ := h0.elem l4
            have w4q0 := r0q0 (x3).toNat
            have l5 : (x3).toNat < m1 := by omega
            obtain ⟨p5, v5⟩ := h1.elem l5
            cases z6 : f1q0 (x3).toNat with
            | true =>
              obtain ⟨d7, e7, g7, o7⟩ := ex_add x3 (1 : Int)
              exfalso; omega
            | false =>
              obtain ⟨d8, e8, g8, o8⟩ := ex_add x3 (1 : Int)
              exfalso; omega
          ·
            exact Zw.fx Zw.t235 [(.int .i64 (m0 : Int)), (.int .i64 (m1 : Int))] [] (Zw.k0 _) ⟨hold_len (.atom _ _ rfl) (.atom _ _ rfl), hold_bool (.atom _ _ rfl) (.atom _ _ rfl) (op_lss_t q1), hold_len (.atom _ _ rfl) (.atom _ _ rfl), hold_bool (.atom _ _ rfl) (.atom _ _ rfl) (op_lss_t q2), hold_bool (.atom _ _ rfl) (.int _ _) (op_lss_f (Int.not_lt.1 q3)), trivial⟩ Zw.i235 rfl rfl rowsHold_nil Zw.r235
        ·
          exact Zw.fx Zw.t236 [(.int .i64 (m0 : Int)), (.int .i64 (m1 : Int))] [] (Zw.k0 _) ⟨hold_len (.atom _ _ rfl) (.atom _ _ rfl), hold_bool (.atom _ _ rfl) (.atom _ _ rfl) (op_lss_t q1), hold_len (.atom _ _ rfl) (.atom _ _ rfl), hold_bool (.atom _ _ rfl) (.atom _ _ rfl) (op_lss_f (Int.not_lt.1 q2)), trivial⟩ Zw.i236 rfl rfl rowsHold_nil Zw.r236
      ·
        exact Zw.fx Zw.t237 [(.int .i64 (m0 : Int))] [] (Zw.k0 _) ⟨hold_len (.atom _ _ rfl) (.atom _ _ rfl), hold_bool (.atom _ _ rfl) (.atom _ _ rfl) (op_lss_f (Int.not_lt.1 q1)), trivial⟩ Zw.i237 rfl rfl rowsHold_nil Zw.r237
    ·
      intro x2 g2x p10 hk
      have ⟨gl2, gh2⟩ := g2x
      have ⟨rl2, rh2⟩ := r2
      have ⟨p10l, p10h⟩ := p10
      by_cases q1 : x2 < (m0 : Int)
      ·
        by_cases q2 : x2 < (m1 : Int)
        ·
          by_cases q3 : x2 < (30 : Int)
          ·
            have l4 : (x2).toNat < m0 := by omega
            obtain ⟨p4, v4⟩ := h0.elem l4
            have w4q0 := r0q0 (x2).toNat
            have l5 : (x2).toNat < m1 := by omega
            obtain ⟨p5, v5⟩ := h1.elem l5
            cases z6 : f1q0 (x2).toNat with
            | true =>
              obtain ⟨d7, e7, g7, o7⟩ := ex_add x2 (1 : Int)
              exfalso; omega
            | false =>
              obtain ⟨d8, e8, g8, o8⟩ := ex_add x2 (1 : Int)
              exfalso; omega
          ·
            exact Zw.fx Zw.t310 [(.int .i64 (m0 : Int)), (.int .i64 (m1 : Int))] [] (Zw.k0 _) ⟨hold_len (.atom _ _ rfl) (.atom _ _ rfl), hold_bool (.atom _ _ rfl) (.atom _ _ rfl) (op_lss_t q1), hold_len (.atom _ _ rfl) (.atom _ _ rfl), hold_bool (.atom _ _ rfl) (.atom _ _ rfl) (op_lss_t q2), hold_bool (.atom _ _ rfl) (.int _ _) (op_lss_f (Int.not_lt.1 q3)), trivial⟩ Zw.i310 rfl rfl rowsHold_nil Zw.r310
        ·
          exact Zw.fx Zw.t311 [(.int .i64 (m0 : Int)), (.int .i64 (m1 : Int))] [] (Zw.k0 _) ⟨hold_len (.atom _ _ rfl) (.atom _ _ rfl), hold_bool (.atom _ _ rfl) (.atom _ _ rfl) (op_lss_t q1), hold_len (.atom _ _ rfl) (.atom _ _ rfl), hold_bool (.atom _ _ rfl) (.atom _ _ rfl) (op_lss_f (Int.not_lt.1 q2)), trivial⟩ Zw.i311 rfl rfl rowsHold_nil Zw.r311
      ·
        exact Zw.fx Zw.t312 [(.int .i64 (m0 : Int))] [] (Zw.k0 _) ⟨hold_len (.atom _ _ rfl) (.atom _ _ rfl), hold_bool (.atom _ _ rfl) (.atom _ _ rfl) (op_lss_f (Int.not_lt.1 q1)), trivial⟩ Zw.i312 rfl rfl rowsHold_nil Zw.r312
  | succ k ih =>
    obtain ⟨ih13, ih21⟩ := ih
    refine ⟨?_, ?_⟩
    ·
      intro x2 x3 g2x g3x p10 hk
      have ⟨gl2, gh2⟩ := g2x
      have ⟨gl3, gh3⟩ := g3x
      have ⟨rl2, rh2⟩ := r2
      have ⟨p10l, p10h⟩ := p10
      by_cases q1 : x3 < (m0 : Int)
      ·
        by_cases q2 : x3 < (m1 : Int)
        ·
          by_cases q3 : x3 < (30 : Int)
          ·
            have l4 : (x3).toNat < m0 := by omega
            obtain ⟨p4, v4⟩ := h0.elem l4
            have w4q0 := r0q0 (x3).toNat
            have l5 : (x3).toNat < m1 := by omega
            obtain ⟨p5, v5⟩ := h1.elem l5
            cases z6 : f1q0 (x3).toNat with
            | true =>
              obtain ⟨d7, e7, g7, o7⟩ := ex_add x3 (1 : Int)
              exact Zw.nx Zw.t233 [(.int .i64 (f0q0 (x3).toNat)), (.int .i64 (m0 : Int)), (.int .i64 (m1 : Int)), (.int .i64 d7)] [p4, p5] [(.slice a0 m0 c0), (.slice a1 m1 c1), (.int .i64 d7)] (Zw.k0 _) ⟨hold_len (.atom _ _ rfl) (.atom _ _ rfl), hold_bool (.atom _ _ rfl) (.atom _ _ rfl) (op_lss_t q1), hold_len (.atom _ _ rfl) (.atom _ _ rfl), hold_bool (.atom _ _ rfl) (.atom _ _ rfl) (op_lss_t q2), hold_bool (.atom _ _ rfl) (.int _ _) (op_lss_t q3), hold_idx v4 l4 (.atom _ _ rfl) (.atom _ _ rfl) (by omega) rfl, hold_idx v5 l5 (.atom _ _ rfl) (.atom _ _ rfl) (by omega) rfl, hold_bool (.atom _ _ rfl) (.atom _ _ rfl) (op_neq_f rfl), hold_op (.atom _ _ rfl) (.int _ _) o7 (.atom _ _ rfl), trivial⟩ Zw.i233 rfl rfl (rowsHold_cons (Elem.row v4 (VL.cons (.atom _ _ rfl) VL.nil)) (rowsHold_cons (Elem.row v5 (VL.cons (vb z6) VL.nil)) rowsHold_nil)) Zw.r233 rfl rfl (ih21 d7 (by first | assumption | (constructor <;> omega) | trivial) (by constructor <;> omega) (by omega))
            | false =>
              obtain ⟨d8, e8, g8, o8⟩ := ex_add x3 (1 : Int)
              exact Zw.nx Zw.t234 [(.int .i64 (f0q0 (x3).toNat)), (.int .i64 (m0 : Int)), (.int .i64 (m1 : Int)), (.int .i64 d8)] [p4, p5] [(.slice a0 m0 c0), (.slice a1 m1 c1), (.int .i64 (f0q0 (x3).toNat)), (.int .i64 d8)] (Zw.k0 _) ⟨hold_len (.atom _ _ rfl) (.atom _ _ rfl), hold_bool (.atom _ _ rfl) (.atom _ _ rfl) (op_lss_t q1), hold_len (.atom _ _ rfl) (.atom _ _ rfl), hold_bool (.atom _ _ rfl) (.atom _ _ rfl) (op_lss_t q2), hold_bool (.atom _ _ rfl) (.int _ _) (op_lss_t q3), hold_idx v4 l4 (.atom _ _ rfl) (.atom _ _ rfl) (by omega) rfl, hold_idx v5 l5 (.atom _ _ rfl) (.atom _ _ rfl) (by omega) rfl, hold_bool (.atom _ _ rfl) (.atom _ _ rfl) (op_neq_f rfl), hold_op (.atom _ _ rfl) (.int _ _) o8 (.atom _ _ rfl), trivial⟩ Zw.i234 rfl rfl (rowsHold_cons (Elem.row v4 (VL.cons (.atom _ _ rfl) VL.nil)) (rowsHold_cons (Elem.row v5 (VL.cons (vb z6) VL.nil)) rowsHold_nil)) Zw.r234 rfl rfl (ih13 (f0q0 (x3).toNat) d8 (by first | assumption | (constructor <;> omega) | trivial) (by first | assumption | (constructor <;> omega) | trivial) (by constructor <;> omega) (by omega))
          ·
            exact Zw.fx Zw.t235 [(.int .i64 (m0 : Int)), (.int .i64 (m1 : Int))] [] (Zw.k0 _) ⟨hold_len (.atom _ _ rfl) (.atom _ _ rfl), hold_bool (.atom _ _ rfl) (.atom _ _ rfl) (op_lss_t q1), hold_len (.atom _ _ rfl) (.atom _ _ rfl), hold_bool (.atom _ _ rfl) (.atom _ _ rfl) (op_lss_t q2), hold_bool (.atom _ _ rfl) (.int _ _) (op_lss_f (Int.not_lt.1 q3)), trivial⟩ Zw.i235 rfl rfl rowsHold_nil Zw.r235
        ·
          exact Zw.fx Zw.t236 [(.int .i64 (m0 : Int)), (.int .i64 (m1 : Int))] [] (Zw.k0 _) ⟨hold_len (.atom _ _ rfl) (.atom _ _ rfl), hold_bool (.atom _ _ rfl) (.atom _ _ rfl) (op_lss_t q1), hold_len (.atom _ _ rfl) (.atom _ _ rfl), hold_bool (.atom _ _ rfl) (.atom _ _ rfl) (op_lss_f (Int.not_lt.1 q2)), trivial⟩ Zw.i236 rfl rfl rowsHold_nil Zw.r236
      ·
        exact Zw.fx Zw.t237 [(.int .i64 (m0 : Int))] [] (Zw.k0 _) ⟨hold_len (.atom _ _ rfl) (.atom _ _ rfl), hold_bool (.atom _ _ rfl) (.atom _ _ rfl) (op_lss_f (Int.not_lt.1 q1)), trivial⟩ Zw.i237 rfl rfl rowsHold_nil Zw.r237
    ·
      intro x2 g2x p10 hk
      have ⟨gl2, gh2⟩ := g2x
      have ⟨rl2, rh2⟩ := r2
      have ⟨p10l, p10h⟩ := p10
      by_cases q1 : x2 < (m0 : Int)
      ·
        by_cases q2 : x2 < (m1 : Int)
        ·
          by_cases q3 : x2 < (30 : Int)
          ·
            have l4 : (x2).toNat < m0 := by omega
            obtain ⟨p4, v4⟩ := h0.elem l4
            have w4q0 := r0q0 (x2).toNat
            have l5 : (x2).toNat < m1 := by omega
            obtain ⟨p5, v5⟩ := h1.elem l5
            cases z6 : f1q0 (x2).toNat with
            | true =>
              obtain ⟨d7, e7, g7, o7⟩ := ex_add x2 (1 : Int)
              exact Zw.nx Zw.t308 [(.int .i64 (f0q0 (x2).toNat)), (.int .i64 (m0 : Int)), (.int .i64 (m1 : Int)), (.int .i64 d7)] [p4, p5] [(.slice a0 m0 c0), (.slice a1 m1 c1), (.int .i64 d7)] (Zw.k0 _) ⟨hold_len (.atom _ _ rfl) (.atom _ _ rfl), hold_bool (.atom _ _ rfl) (.atom _ _ rfl) (op_lss_t q1), hold_len (.atom _ _ rfl) (.atom _ _ rfl), hold_bool (.atom _ _ rfl) (.atom _ _ rfl) (op_lss_t q2), hold_bool (.atom _ _ rfl) (.int _ _) (op_lss_t q3), hold_idx v4 l4 (.atom _ _ rfl) (.atom _ _ rfl) (by omega) rfl, hold_idx v5 l5 (.atom _ _ rfl) (.atom _ _ rfl) (by omega) rfl, hold_op (.atom _ _ rfl) (.int _ _) o7 (.atom _ _ rfl), trivial⟩ Zw.i308 rfl rfl (rowsHold_cons (Elem.row v4 (VL.cons (.atom _ _ rfl) VL.nil)) (rowsHold_cons (Elem.row v5 (VL.cons (vb z6) VL.nil)) rowsHold_nil)) Zw.r308 rfl rfl (ih21 d7 (by first | assumption | (constructor <;> omega) | trivial) (by constructor <;> omega) (by omega))
            | false =>
              obtain ⟨d8, e8, g8, o8⟩ := ex_add x2 (1 : Int)
              exact Zw.nx Zw.t309 [(.int .i64 (f0q0 (x2).toNat)), (.int .i64 (m0 : Int)), (.int .i64 (m1 : Int)), (.int .i64 d8)] [p4, p5] [(.slice a0 m0 c0), (.slice a1 m1 c1), (.int .i64 (f0q0 (x2).toNat)), (.int .i64 d8)] (Zw.k0 _) ⟨hold_len (.atom _ _ rfl) (.atom _ _ rfl), hold_bool (.atom _ _ rfl) (.atom _ _ rfl) (op_lss_t q1), hold_len (.atom _ _ rfl) (.atom _ _ rfl), hold_bool (.atom _ _ rfl) (.atom _ _ rfl) (op_lss_t q2), hold_bool (.atom _ _ rfl) (.int _ _) (op_lss_t q3), hold_idx v4 l4 (.atom _ _ rfl) (.atom _ _ rfl) (by omega) rfl, hold_idx v5 l5 (.atom _ _ rfl) (.atom _ _ rfl) (by omega) rfl, hold_op (.atom _ _ rfl) (.int _ _) o8 (.atom _ _ rfl), trivial⟩ Zw.i309 rfl rfl (rowsHold_cons (Elem.row v4 (VL.cons (.atom _ _ rfl) VL.nil)) (rowsHold_cons (Elem.row v5 (VL.cons (vb z6) VL.nil)) rowsHold_nil)) Zw.r309 rfl rfl (ih13 (f0q0 (x2).toNat) d8 (by first | assumption | (constructor <;> omega) | trivial) (by first | assumption | (constructor <;> omega) | trivial) (by constructor <;> omega) (by omega))
          ·
            exact Zw.fx Zw.t310 [(.int .i64 (m0 : Int)), (.int .i64 (m1 : Int))] [] (Zw.k0 _) ⟨hold_len (.atom _ _ rfl) (.atom _ _ rfl), hold_bool (.atom _ _ rfl) (.atom _ _ rfl) (op_lss_t q1), hold_len (.atom _ _ rfl) (.atom _ _ rfl), hold_bool (.atom _ _ rfl) (.atom _ _ rfl) (op_lss_t q2), hold_bool (.atom _ _ rfl) (.int _ _) (op_lss_f (Int.not_lt.1 q3)), trivial⟩ Zw.i310 rfl rfl rowsHold_nil Zw.r310
        ·
          exact Zw.fx Zw.t311 [(.int .i64 (m0 : Int)), (.int .i64 (m1 : Int))] [] (Zw.k0 _) ⟨hold_len (.atom _ _ rfl) (.atom _ _ rfl), hold_bool (.atom _ _ rfl) (.atom _ _ rfl) (op_lss_t q1), hold_len (.atom _ _ rfl) (.atom _ _ rfl), hold_bool (.atom _ _ rfl) (.atom _ _ rfl) (op_lss_f (Int.not_lt.1 q2)), trivial⟩ Zw.i311 rfl rfl rowsHold_nil Zw.r311
      ·
        exact Zw.fx Zw.t312 [(.int .i64 (m0 : Int))] [] (Zw.k0 _) ⟨hold_len (.atom _ _ rfl) (.atom _ _ rfl), hold_bool (.atom _ _ rfl) (.atom _ _ rfl) (op_lss_f (Int.not_lt.1 q1)), trivial⟩ Zw.i312 rfl rfl rowsHold_nil Zw.r312
theorem Zw.n13 {W : World} {a0 : Option Addr} {m0 c0 : Nat} {f0q0 : Nat → Int} {a1 : Option Addr} {m1 c1 : Nat} {f1q0 : Nat → Bool} {n2 : Int} (h0 : SlcOk W a0 m0 c0 1 (fun i => [.int .i64 (f0q0 i)])) (b0 : (m0 : Int) < 9223372036854775808) (r0q0 : ∀ i, R64 (f0q0 i)) (h1 : SlcOk W a1 m1 c1 1 (fun i => [.bool (f1q0 i)])) (b1 : (m1 : Int) < 9223372036854775808) (r2 : R64 n2) (x2 : Int) (x3 : Int) (g2x : R64 x2) (g3x : R64 x3) (p10 : (0 ≤ x3 ∧ x3 ≤ 30)) : NdGood Tryz.prog Tryz.f4 8 Tryz.H0 W Zw.p0 Zw.d13 [(.slice a0 m0 c0), (.slice a1 m1 c1), (.int .i64 x2), (.int .i64 x3)] :=
  ((Zw.s13 h0 b0 r0q0 h1 b1 r2 (30 - x3).toNat).1) x2 x3 g2x g3x p10 (by omega)
theorem Zw.n21 {W : World} {a0 : Option Addr} {m0 c0 : Nat} {f0q0 : Nat → Int} {a1 : Option Addr} {m1 c1 : Nat} {f1q0 : Nat → Bool} {n2 : Int} (h0 : SlcOk W a0 m0 c0 1 (fun i => [.int .i64 (f0q0 i)])) (b0 : (m0 : Int) < 9223372036854775808) (r0q0 : ∀ i, R64 (f0q0 i)) (h1 : SlcOk W a1 m1 c1 1 (fun i => [.bool (f1q0 i)])) (b1 : (m1 : Int) < 9223372036854775808) (r2 : R64 n2) (x2 : Int) (g2x : R64 x2) (p10 : (0 ≤ x2 ∧ x2 ≤ 30)) : NdGood Tryz.prog Tryz.f4 8 Tryz.H0 W Zw.p0 Zw.d21 [(.slice a0 m0 c0), (.slice a1 m1 c1), (.int .i64 x2)] :=
  ((Zw.s13 h0 b0 r0q0 h1 b1 r2 (30 - x2).toNat).2) x2 g2x p10 (by omega)
theorem Zw.s5 {W : World} {a0 : Option Addr} {m0 c0 : Nat} {f0q0 : Nat → Int} {a1 : Option Addr} {m1 c1 : Nat} {f1q0 : Nat → Bool} {n2 : Int} (h0 : SlcOk W a0 m0 c0 1 (fun i => [.int .i64 (f0q0 i)])) (b0 : (m0 : Int) < 9223372036854775808) (r0q0 : ∀ i, R64 (f0q0 i)) (h1 : SlcOk W a1 m1 c1 1 (fun i => [.bool (f1q0 i)])) (b1 : (m1 : Int) < 9223372036854775808) (r2 : R64 n2) : ∀ k : Nat, (∀ (x2 : Int) (g2x : R64 x2) (p10 : (0 ≤ x2 ∧ x2 ≤ 30)), (30 - x2) ≤ k → NdGood Tryz.prog Tryz.f4 8 Tryz.H0 W Zw.p0 Zw.d5 [(.slice a0 m0 c0), (.slice a1 m1 c1), (.int .i64 x2)]) := by
  intro k
  induction k with
  | zero =>
    intro x2 g2x p10 hk
    have ⟨gl2, gh2⟩ := g2x
    have ⟨rl2, rh2⟩ := r2
    have ⟨p10l, p10h⟩ := p10
    by_cases q1 : x2 < (m0 : Int)
    ·
      by_cases q2 : x2 < (m1 : Int)
      ·
        by_cases q3 : x2 < (30 : Int)
        ·
          have l4 : (x2).toNat < m0 := by omega
          obtain ⟨p4, v4⟩ := h0.elem l4
          have w4q0 := r0q0 (x2).toNat
          have l5 : (x2).toNat < m1 := by omega
          obtain ⟨p5, v5⟩ := h1.elem l5
          cases z6 : f1q0 (x2).toNat with
          | true =>
            obtain ⟨d7, e7, g7, o7⟩ := ex_add x2 (1 : Int)
            exfalso; omega
          | false =>
            obtain ⟨d8, e8, g8, o8⟩ := ex_add x2 (1 : Int)
            exact Zw.nx Zw.t124 [(.int .i64 (f0q0 (x2).toNat)), (.int .i64 (m0 : Int)), (.int .i64 (m1 : Int)), (.int .i64 d8)] [p4, p5] [(.slice a0 m0 c0), (.slice a1 m1 c1), (.int .i64 (f0q0 (x2).toNat)), (.int .i64 d8)] (Zw.k0 _) ⟨hold_len (.atom _ _ rfl) (.atom _ _ rfl), hold_bool (.atom _ _ rfl) (.atom _ _ rfl) (op_lss_t q1), hold_len (.atom _ _ rfl) (.atom _ _ rfl), hold_bool (.atom _ _ rfl) (.atom _ _ rfl) (op_lss_t q2), hold_bool (.atom _ _ rfl) (.int _ _) (op_lss_t q3), hold_idx v4 l4 (.atom _ _ rfl) (.atom _ _ rfl) (by omega) rfl, hold_idx v5 l5 (.atom _ _ rfl) (.atom _ _ rfl) (by omega) rfl, hold_op (.atom _ _ rfl) (.int _ _) o8 (.atom _ _ rfl), trivial⟩ Zw.i124 rfl rfl (rowsHold_cons (Elem.row v4 (VL.cons (.atom _ _ rfl) VL.nil)) (rowsHold_cons (Elem.row v5 (VL.cons (vb z6) VL.nil)) rowsHold_nil)) Zw.r124 rfl rfl (Zw.n13 h0 b0 r0q0 h1 b1 r2 (f0q0 (x2).toNat) d8 (by first | assumption | (constructor <;> omega) | trivial) (by first | assumption | (constructor <;> omega) | trivial) (by constructor <;> omega))
        ·
          exact Zw.fx Zw.t125 [(.int .i64 (m0 : Int)), (.int .i64 (m1 : Int))] [] (Zw.k0 _) ⟨hold_len (.atom _ _ rfl) (.atom _ _ rfl), hold_bool (.atom _ _ rfl) (.atom _ _ rfl) (op_lss_t q1), hold_len (.atom _ _ rfl) (.atom _ _ rfl), hold_bool (.atom _ _ rfl) (.atom _ _ rfl) (op_lss_t q2), hold_bool (.atom _ _ rfl) (.int _ _) (op_lss_f (Int.not_lt.1 q3)), trivial⟩ Zw.i125 rfl rfl rowsHold_nil Zw.r125
      ·
        exact Zw.fx Zw.t126 [(.int .i64 (m0 : Int)), (.int .i64 (m1 : Int))] [] (Zw.k0 _) ⟨hold_len (.atom _ _ rfl) (.atom _ _ rfl), hold_bool (.atom _ _ rfl) (.atom _ _ rfl) (op_lss_t q1), hold_len (.atom _ _ rfl) (.atom _ _ rfl), hold_bool (.atom _ _ rfl) (.atom _ _ rfl) (op_lss_f (Int.not_lt.1 q2)), trivial⟩ Zw.i126 rfl rfl rowsHold_nil Zw.r126
    ·
      exact Zw.fx Zw.t127 [(.int .i64 (m0 : Int))] [] (Zw.k0 _) ⟨hold_len (.atom _ _ rfl) (.atom _ _ rfl), hold_bool (.atom _ _ rfl) (.atom _ _ rfl) (op_lss_f (Int.not_lt.1 q1)), trivial⟩ Zw.i127 rfl rfl rowsHold_nil Zw.r127
  | succ k ih =>
    have ih5 := ih
    intro x2 g2x p10 hk
    have ⟨gl2, gh2⟩ := g2x
    have ⟨rl2, rh2⟩ := r2
    have ⟨p10l, p10h⟩ := p10
    by_cases q1 : x2 < (m0 : Int)
    ·
      by_cases q2 : x2 < (m1 : Int)
      ·
        by_cases q3 : x2 < (30 : Int)
        ·
          have l4 : (x2).toNat < m0 := by omega
          obtain ⟨p4, v4⟩ := h0.elem l4
          have w4q0 := r0q0 (x2).toNat
          have l5 : (x2).toNat < m1 := by omega
          obtain ⟨p5, v5⟩ := h1.elem l5
          cases z6 : f1q0 (x2).toNat with
          | true =>
            obtain ⟨d7, e7, g7, o7⟩ := ex_add x2 (1 : Int)
            exact Zw.nx Zw.t123 [(.int .i64 (f0q0 (x2).toNat)), (.int .i64 (m0 : Int)), (.int .i64 (m1 : Int)), (.int .i64 d7)] [p4, p5] [(.slice a0 m0 c0), (.slice a1 m1 c1), (.int .i64 d7)] (Zw.k0 _) ⟨hold_len (.atom _ _ rfl) (.atom _ _ rfl), hold_bool (.atom _ _ rfl) (.atom _ _ rfl) (op_lss_t q1), hold_len (.atom _ _ rfl) (.atom _ _ rfl), hold_bool (.atom _ _ rfl) (.atom _ _ rfl) (op_lss_t q2), hold_bool (.atom _ _ rfl) (.int _ _) (op_lss_t q3), hold_idx v4 l4 (.atom _ _ rfl) (.atom _ _ rfl) (by omega) rfl, hold_idx v5 l5 (.atom _ _ rfl) (.atom _ _ rfl) (by omega) rfl, hold_op (.atom _ _ rfl) (.int _ _) o7 (.atom _ _ rfl), trivial⟩ Zw.i123 rfl rfl (rowsHold_cons (Elem.row v4 (VL.cons (.atom _ _ rfl) VL.nil)) (rowsHold_cons (Elem.row v5 (VL.cons (vb z6) VL.nil)) rowsHold_nil)) Zw.r123 rfl rfl (ih5 d7 (by first | assumption | (constructor <;> omega) | trivial) (by constructor <;> omega) (by omega))
          | false =>
            obtain ⟨d8, e8, g8, o8⟩ := ex_add x2 (1 : Int)
            exact Zw.nx Zw.t124 [(.int .i64 (f0q0 (x2).toNat)), (.int .i64 (m0 : Int)), (.int .i64 (m1 : Int)), (.int .i64 d8)] [p4, p5] [(.slice a0 m0 c0), (.slice a1 m1 c1), (.int .i64 (f0q0 (x2).toNat)), (.int .i64 d8)] (Zw.k0 _) ⟨hold_len (.atom _ _ rfl) (.atom _ _ rfl), hold_bool (.atom _ _ rfl) (.atom _ _ rfl) (op_lss_t q1), hold_len (.atom _ _ rfl) (.atom _ _ rfl), hold_bool (.atom _ _ rfl) (.atom _ _ rfl) (op_lss_t q2), hold_bool (.atom _ _ rfl) (.int _ _) (op_lss_t q3), hold_idx v4 l4 (.atom _ _ rfl) (.atom _ _ rfl) (by omega) rfl, hold_idx v5 l5 (.atom _ _ rfl) (.atom _ _ rfl) (by omega) rfl, hold_op (.atom _ _ rfl) (.int _ _) o8 (.atom _ _ rfl), trivial⟩ Zw.i124 rfl rfl (rowsHold_cons (Elem.row v4 (VL.cons (.atom _ _ rfl) VL.nil)) (rowsHold_cons (Elem.row v5 (VL.cons (vb z6) VL.nil)) rowsHold_nil)) Zw.r124 rfl rfl (Zw.n13 h0 b0 r0q0 h1 b1 r2 (f0q0 (x2).toNat) d8 (by first | assumption | (constructor <;> omega) | trivial) (by first | assumption | (constructor <;> omega) | trivial) (by constructor <;> omega))
        ·
          exact Zw.fx Zw.t125 [(.int .i64 (m0 : Int)), (.int .i64 (m1 : Int))] [] (Zw.k0 _) ⟨hold_len (.atom _ _ rfl) (.atom _ _ rfl), hold_bool (.atom _ _ rfl) (.atom _ _ rfl) (op_lss_t q1), hold_len (.atom _ _ rfl) (.atom _ _ rfl), hold_bool (.atom _ _ rfl) (.atom _ _ rfl) (op_lss_t q2), hold_bool (.atom _ _ rfl) (.int _ _) (op_lss_f (Int.not_lt.1 q3)), trivial⟩ Zw.i125 rfl rfl rowsHold_nil Zw.r125
      ·
        exact Zw.fx Zw.t126 [(.int .i64 (m0 : Int)), (.int .i64 (m1 : Int))] [] (Zw.k0 _) ⟨hold_len (.atom _ _ rfl) (.atom _ _ rfl), hold_bool (.atom _ _ rfl) (.atom _ _ rfl) (op_lss_t q1), hold_len (.atom _ _ rfl) (.atom _ _ rfl), hold_bool (.atom _ _ rfl) (.atom _ _ rfl) (op_lss_f (Int.not_lt.1 q2)), trivial⟩ Zw.i126 rfl rfl rowsHold_nil Zw.r126
    ·
      exact Zw.fx Zw.t127 [(.int .i64 (m0 : Int))] [] (Zw.k0 _) ⟨hold_len (.atom _ _ rfl) (.atom _ _ rfl), hold_bool (.atom _ _ rfl) (.atom _ _ rfl) (op_lss_f (Int.not_lt.1 q1)), trivial⟩ Zw.i127 rfl rfl rowsHold_nil Zw.r127
theorem Zw.n5 {W : World} {a0 : Option Addr} {m0 c0 : Nat} {f0q0 : Nat → Int} {a1 : Option Addr} {m1 c1 : Nat} {f1q0 : Nat → Bool} {n2 : Int} (h0 : SlcOk W a0 m0 c0 1 (fun i => [.int .i64 (f0q0 i)])) (b0 : (m0 : Int) < 9223372036854775808) (r0q0 : ∀ i, R64 (f0q0 i)) (h1 : SlcOk W a1 m1 c1 1 (fun i => [.bool (f1q0 i)])) (b1 : (m1 : Int) < 9223372036854775808) (r2 : R64 n2) (x2 : Int) (g2x : R64 x2) (p10 : (0 ≤ x2 ∧ x2 ≤ 30)) : NdGood Tryz.prog Tryz.f4 8 Tryz.H0 W Zw.p0 Zw.d5 [(.slice a0 m0 c0), (.slice a1 m1 c1), (.int .i64 x2)] :=
  (Zw.s5 h0 b0 r0q0 h1 b1 r2 (30 - x2).toNat) x2 g2x p10 (by omega)
theorem Zw.s14 {W : World} {a0 : Option Addr} {m0 c0 : Nat} {f0q0 : Nat → Int} {a1 : Option Addr} {m1 c1 : Nat} {f1q0 : Nat → Bool} {n2 : Int} (h0 : SlcOk W a0 m0 c0 1 (fun i => [.int .i64 (f0q0 i)])) (b0 : (m0 : Int) < 9223372036854775808) (r0q0 : ∀ i, R64 (f0q0 i)) (h1 : SlcOk W a1 m1 c1 1 (fun i => [.bool (f1q0 i)])) (b1 : (m1 : Int) < 9223372036854775808) (r2 : R64 n2) : ∀ k : Nat, (∀ (x2 : Int) (x3 : Int) (g2x : R64 x2) (g3x : R64 x3) (p10 : (0 ≤ x3 ∧ x3 ≤ 30)), (30 - x3) ≤ k → NdGood Tryz.prog Tryz.f4 8 Tryz.H0 W Zw.p0 Zw.d14 [(.slice a0 m0 c0), (.slice a1 m1 c1), (.int .i64 x2), (.int .i64 x3)]) ∧ (∀ (x2 : Int) (g2x : R64 x2) (p10 : (0 ≤ x2 ∧ x2 ≤ 30)), (30 - x2) ≤ k → NdGood Tryz.prog Tryz.f4 8 Tryz.H0 W Zw.p0 Zw.d22 [(.slice a0 m0 c0), (.slice a1 m1 c1), (.int .i64 x2)]) := by
  intro k
  induction k with
  | zero =>
    refine ⟨?_, ?_⟩
    ·
      intro x2 x3 g2x g3x p10 hk
      have ⟨gl2, gh2⟩ := g2x
      have ⟨gl3, gh3⟩ := g3x
      have ⟨rl2, rh2⟩ := r2
      have ⟨p10l, p10h⟩ := p10
      by_cases q1 : x3 < (m0 : Int)
      ·
        by_cases q2 : x3 < (m1 : Int)
        ·
          by_cases q3 : x3 < (30 : Int)
          ·
            have l4 : (x3).toNat < m0 := by omega
            obtain ⟨p4, v4⟩ := h0.elem l4
            have w4q0 := r0q0 (x3).toNat
            have l5 : (x3).toNat < m1 := by omega
            obtain ⟨p5, v5⟩ := h1.elem l5
            cases z6 : f1q0 (x3).toNat with
            | true =>
              obtain ⟨d7, e7, g7, o7⟩ := ex_add x3 (1 : Int)
              exfalso; omega
            | false =>
              obtain ⟨d8, e8, g8, o8⟩ := ex_add x3 (1 : Int)
              exfalso; omega
          ·
            exact Zw.fx Zw.t240 [(.int .i64 (m0 : Int)), (.int .i64 (m1 : Int))] [] (Zw.k0 _) ⟨hold_len (.atom _ _ rfl) (.atom _ _ rfl), hold_bool (.atom _ _ rfl) (.atom _ _ rfl) (op_lss_t q1), hold_len (.atom _ _ rfl) (.atom _ _ rfl), hold_bool (.atom _ _ rfl) (.atom _ _ rfl) (op_lss_t q2), hold_bool (.atom _ _ rfl) (.int _ _) (op_lss_f (Int.not_lt.1 q3)), trivial⟩ Zw.i240 rfl rfl rowsHold_nil Zw.r240
        ·
          exact Zw.fx Zw.t241 [(.int .i64 (m0 : Int)), (.int .i64 (m1 : Int))] [] (Zw.k0 _) ⟨hold_len (.atom _ _ rfl) (.atom _ _ rfl), hold_bool (.atom _ _ rfl) (.atom _ _ rfl) (op_lss_t q1), hold_len (.atom _ _ rfl) (.atom _ _ rfl), hold_bool (.atom _ _ rfl) (.atom _ _ rfl) (op_lss_f (Int.not_lt.1 q2)), trivial⟩ Zw.i241 rfl rfl rowsHold_nil Zw.r241
      ·
        exact Zw.fx Zw.t242 [(.int .i64 (m0 : Int))] [] (Zw.k0 _) ⟨hold_len (.atom _ _ rfl) (.atom _ _ rfl), hold_bool (.atom _ _ rfl) (.atom _ _ rfl) (op_lss_f (Int.not_lt.1 q1)), trivial⟩ Zw.i242 rfl rfl rowsHold_nil Zw.r242
    ·
      intro x2 g2x p10 hk
      have ⟨gl2, gh2⟩ := g2x
      have ⟨rl2, rh2⟩ := r2
      have ⟨p10l, p10h⟩ := p10
      by_cases q1 : x2 < (m0 : Int)
      ·
        by_cases q2 : x2 < (m1 : Int)
        ·
          by_cases q3 : x2 < (30 : Int)
          ·
            have l4 : (x2).toNat < m0 := by omega
            obtain ⟨p4, v4⟩ := h0.elem l4
            have w4q0 := r0q0 (x2).toNat
            have l5 : (x2).toNat < m1 := by omega
            obtain ⟨p5, v5⟩ := h1.elem l5
            cases z6 : f1q0 (x2).toNat with
            | true =>
              obtain ⟨d7, e7, g7, o7⟩ := ex_add x2 (1 : Int)
              exfalso; omega
            | false =>
              obtain ⟨d8, e8, g8, o8⟩ := ex_add x2 (1 : Int)
              exfalso; omega
          ·
            exact Zw.fx Zw.t315 [(.int .i64 (m0 : Int)), (.int .i64 (m1 : Int))] [] (Zw.k0 _) ⟨hold_len (.atom _ _ rfl) (.atom _ _ rfl), hold_bool (.atom _ _ rfl) (.atom _ _ rfl) (op_lss_t q1), hold_len (.atom _ _ rfl) (.atom _ _ rfl), hold_bool (.atom _ _ rfl) (.atom _ _ rfl) (op_lss_t q2), hold_bool (.atom _ _ rfl) (.int _ _) (op_lss_f (Int.not_lt.1 q3)), trivial⟩ Zw.i315 rfl rfl rowsHold_nil Zw.r315
        ·
          exact Zw.fx Zw.t316 [(.int .i64 (m0 : Int)), (.int .i64 (m1 : Int))] [] (Zw.k0 _) ⟨hold_len (.atom _ _ rfl) (.atom _ _ rfl), hold_bool (.atom _ _ rfl) (.atom _ _ rfl) (op_lss_t q1), hold_len (.atom _ _ rfl) (.atom _ _ rfl), hold_bool (.atom _ _ rfl) (.atom _ _ rfl) (op_lss_f (Int.not_lt.1 q2)), trivial⟩ Zw.i316 rfl rfl rowsHold_nil Zw.r316
      ·
        exact Zw.fx Zw.t317 [(.int .i64 (m0 : Int))] [] (Zw.k0 _) ⟨hold_len (.atom _ _ rfl) (.atom _ _ rfl), hold_bool (.atom _ _ rfl) (.atom _ _ rfl) (op_lss_f (Int.not_lt.1 q1)), trivial⟩ Zw.i317 rfl rfl rowsHold_nil Zw.r317
  | succ k ih =>
    obtain ⟨ih14, ih22⟩ := ih
    refine ⟨?_, ?_⟩
    ·
      intro x2 x3 g2x g3x p10 hk
      have ⟨gl2, gh2⟩ := g2x
      have ⟨gl3, gh3⟩ := g3x
      have ⟨rl2, rh2⟩ := r2
      have ⟨p10l, p10h⟩ := p10
      by_cases q1 : x3 < (m0 : Int)
      ·
        by_cases q2 : x3 < (m1 : Int)
        ·
          by_cases q3 : x3 < (30 : Int)
          ·
            have l4 : (x3).toNat < m0 := by omega
            obtain ⟨p4, v4⟩ := h0.elem l4
            have w4q0 := r0q0 (x3).toNat
            have l5 : (x3).toNat < m1 := by omega
            obtain ⟨p5, v5⟩ := h1.elem l5
            cases z6 : f1q0 (x3).toNat with
            | true =>
              obtain ⟨d7, e7, g7, o7⟩ := ex_add x3 (1 : Int)
              exact Zw.nx Zw.t238 [(.int .i64 (f0q0 (x3).toNat)), (.int .i64 (m0 : Int)), (.int .i64 (m1 : Int)), (.int .i64 d7)] [p4, p5] [(.slice a0 m0 c0), (.slice a1 m1 c1), (.int .i64 d7)] (Zw.k0 _) ⟨hold_len (.atom _ _ rfl) (.atom _ _ rfl), hold_bool (.atom _ _ rfl) (.atom _ _ rfl) (op_lss_t q1), hold_len (.atom _ _ rfl) (.atom _ _ rfl), hold_bool (.atom _ _ rfl) (.atom _ _ rfl) (op_lss_t q2), hold_bool (.atom _ _ rfl) (.int _ _) (op_lss_t q3), hold_idx v4 l4 (.atom _ _ rfl) (.atom _ _ rfl) (by omega) rfl, hold_idx v5 l5 (.atom _ _ rfl) (.atom _ _ rfl) (by omega) rfl, hold_bool (.atom _ _ rfl) (.atom _ _ rfl) (op_neq_f rfl), hold_op (.atom _ _ rfl) (.int _ _) o7 (.atom _ _ rfl), trivial⟩ Zw.i238 rfl rfl (rowsHold_cons (Elem.row v4 (VL.cons (.atom _ _ rfl) VL.nil)) (rowsHold_cons (Elem.row v5 (VL.cons (vb z6) VL.nil)) rowsHold_nil)) Zw.r238 rfl rfl (ih22 d7 (by first | assumption | (constructor <;> omega) | trivial) (by constructor <;> omega) (by omega))
            | false =>
              obtain ⟨d8, e8, g8, o8⟩ := ex_add x3 (1 : Int)
              exact Zw.nx Zw.t239 [(.int .i64 (f0q0 (x3).toNat)), (.int .i64 (m0 : Int)), (.int .i64 (m1 : Int)), (.int .i64 d8)] [p4, p5] [(.slice a0 m0 c0), (.slice a1 m1 c1), (.int .i64 (f0q0 (x3).toNat)), (.int .i64 d8)] (Zw.k0 _) ⟨hold_len (.atom _ _ rfl) (.atom _ _ rfl), hold_bool (.atom _ _ rfl) (.atom _ _ rfl) (op_lss_t q1), hold_len (.atom _ _ rfl) (.atom _ _ rfl), hold_bool (.atom _ _ rfl) (.atom _ _ rfl) (op_lss_t q2), hold_bool (.atom _ _ rfl) (.int _ _) (op_lss_t q3), hold_idx v4 l4 (.atom _ _ rfl) (.atom _ _ rfl) (by omega) rfl, hold_idx v5 l5 (.atom _ _ rfl) (.atom _ _ rfl) (by omega) rfl, hold_bool (.atom _ _ rfl) (.atom _ _ rfl) (op_neq_f rfl), hold_op (.atom _ _ rfl) (.int _ _) o8 (.atom _ _ rfl), trivial⟩ Zw.i239 rfl rfl (rowsHold_cons (Elem.row v4 (VL.cons (.atom _ _ rfl) VL.nil)) (rowsHold_cons (Elem.row v5 (VL.cons (vb z6) VL.nil)) rowsHold_nil)) Zw.r239 rfl rfl (ih14 (f0q0 (x3).toNat) d8 (by first | assumption | (constructor <;> omega) | trivial) (by first | assumption | (constructor <;> omega) | trivial) (by constructor <;> omega) (by omega))
          ·
            exact Zw.fx Zw.t240 [(.int .i64 (m0 : Int)), (.int .i64 (m1 : Int))] [] (Zw.k0 _) ⟨hold_len (.atom _ _ rfl) (.atom _ _ rfl), hold_bool (.atom _ _ rfl) (.atom _ _ rfl) (op_lss_t q1), hold_len (.atom _ _ rfl) (.atom _ _ rfl), hold_bool (.atom _ _ rfl) (.atom _ _ rfl) (op_lss_t q2), hold_bool (.atom _ _ rfl) (.int _ _) (op_lss_f (Int.not_lt.1 q3)), trivial⟩ Zw.i240 rfl rfl rowsHold_nil Zw.r240
        ·
          exact Zw.fx Zw.t241 [(.int .i64 (m0 : Int)), (.int .i64 (m1 : Int))] [] (Zw.k0 _) ⟨hold_len (.atom _ _ rfl) (.atom _ _ rfl), hold_bool (.atom _ _ rfl) (.atom _ _ rfl) (op_lss_t q1), hold_len (.atom _ _ rfl) (.atom _ _ rfl), hold_bool (.atom _ _ rfl) (.atom _ _ rfl) (op_lss_f (Int.not_lt.1 q2)), trivial⟩ Zw.i241 rfl rfl rowsHold_nil Zw.r241
      ·
        exact Zw.fx Zw.t242 [(.int .i64 (m0 : Int))] [] (Zw.k0 _) ⟨hold_len (.atom _ _ rfl) (.atom _ _ rfl), hold_bool (.atom _ _ rfl) (.atom _ _ rfl) (op_lss_f (Int.not_lt.1 q1)), trivial⟩ Zw.i242 rfl rfl rowsHold_nil Zw.r242
    ·
      intro x2 g2x p10 hk
      have ⟨gl2, gh2⟩ := g2x
      have ⟨rl2, rh2⟩ := r2
      have ⟨p10l, p10h⟩ := p10
      by_cases q1 : x2 < (m0 : Int)
      ·
        by_cases q2 : x2 < (m1 : Int)
        ·
          by_cases q3 : x2 < (30 : Int)
          ·
            have l4 : (x2).toNat < m0 := by omega
            obtain ⟨p4, v4⟩ := h0.elem l4
            have w4q0 := r0q0 (x2).toNat
            have l5 : (x2).toNat < m1 := by omega
            obtain ⟨p5, v5⟩ := h1.elem l5
            cases z6 : f1q0 (x2).toNat with
            | true =>
              obtain ⟨d7, e7, g7, o7⟩ := ex_add x2 (1 : Int)
              exact Zw.nx Zw.t313 [(.int .i64 (f0q0 (x2).toNat)), (.int .i64 (m0 : Int)), (.int .i64 (m1 : Int)), (.int .i64 d7)] [p4, p5] [(.slice a0 m0 c0), (.slice a1 m1 c1), (.int .i64 d7)] (Zw.k0 _) ⟨hold_len (.atom _ _ rfl) (.atom _ _ rfl), hold_bool (.atom _ _ rfl) (.atom _ _ rfl) (op_lss_t q1), hold_len (.atom _ _ rfl) (.atom _ _ rfl), hold_bool (.atom _ _ rfl) (.atom _ _ rfl) (op_lss_t q2), hold_bool (.atom _ _ rfl) (.int _ _) (op_lss_t q3), hold_idx v4 l4 (.atom _ _ rfl) (.atom _ _ rfl) (by omega) rfl, hold_idx v5 l5 (.atom _ _ rfl) (.atom _ _ rfl) (by omega) rfl, hold_op (.atom _ _ rfl) (.int _ _) o7 (.atom _ _ rfl), trivial⟩ Zw.i313 rfl rfl (rowsHold_cons (Elem.row v4 (VL.cons (.atom _ _ rfl) VL.nil)) (rowsHold_cons (Elem.row v5 (VL.cons (vb z6) VL.nil)) rowsHold_nil)) Zw.r313 rfl rfl (ih22 d7 (by first | assumption | (constructor <;> omega) | trivial) (by constructor <;> omega) (by omega))
            | false =>
              obtain ⟨d8, e8, g8, o8⟩ := ex_add x2 (1 : Int)
              exact Zw.nx Zw.t314 [(.int .i64 (f0q0 (x2).toNat)), (.int .i64 (m0 : Int)), (.int .i64 (m1 : Int)), (.int .i64 d8)] [p4, p5] [(.slice a0 m0 c0), (.slice a1 m1 c1), (.int .i64 (f0q0 (x2).toNat)), (.int .i64 d8)] (Zw.k0 _) ⟨hold_len (.atom _ _ rfl) (.atom _ _ rfl), hold_bool (.atom _ _ rfl) (.atom _ _ rfl) (op_lss_t q1), hold_len (.atom _ _ rfl) (.atom _ _ rfl), hold_bool (.atom _ _ rfl) (.atom _ _ rfl) (op_lss_t q2), hold_bool (.atom _ _ rfl) (.int _ _) (op_lss_t q3), hold_idx v4 l4 (.atom _ _ rfl) (.atom _ _ rfl) (by omega) rfl, hold_idx v5 l5 (.atom _ _ rfl) (.atom _ _ rfl) (by omega) rfl, hold_op (.atom _ _ rfl) (.int _ _) o8 (.atom _ _ rfl), trivial⟩ Zw.i314 rfl rfl (rowsHold_cons (Elem.row v4 (VL.cons (.atom _ _ rfl) VL.nil)) (rowsHold_cons (Elem.row v5 (VL.cons (vb z6) VL.nil)) rowsHold_nil)) Zw.r314 rfl rfl (ih14 (f0q0 (x2).toNat) d8 (by first | assumption | (constructor <;> omega) | trivial) (by first | assumption | (constructor <;> omega) | trivial) (by constructor <;> omega) (by omega))
          ·
            exact Zw.fx Zw.t315 [(.int .i64 (m0 : Int)), (.int .i64 (m1 : Int))] [] (Zw.k0 _) ⟨hold_len (.atom _ _ rfl) (.atom _ _ rfl), hold_bool (.atom _ _ rfl) (.atom _ _ rfl) (op_lss_t q1), hold_len (.atom _ _ rfl) (.atom _ _ rfl), hold_bool (.atom _ _ rfl) (.atom _ _ rfl) (op_lss_t q2), hold_bool (.atom _ _ rfl) (.int _ _) (op_lss_f (Int.not_lt.1 q3)), trivial⟩ Zw.i315 rfl rfl rowsHold_nil Zw.r315
        ·
          exact Zw.fx Zw.t316 [(.int .i64 (m0 : Int)), (.int .i64 (m1 : Int))] [] (Zw.k0 _) ⟨hold_len (.atom _ _ rfl) (.atom _ _ rfl), hold_bool (.atom _ _ rfl) (.atom _ _ rfl) (op_lss_t q1), hold_len (.atom _ _ rfl) (.atom _ _ rfl), hold_bool (.atom _ _ rfl) (.atom _ _ rfl) (op_lss_f (Int.not_lt.1 q2)), trivial⟩ Zw.i316 rfl rfl rowsHold_nil Zw.r316
      ·
        exact Zw.fx Zw.t317 [(.int .i64 (m0 : Int))] [] (Zw.k0 _) ⟨hold_len (.atom _ _ rfl) (.atom _ _ rfl), hold_bool (.atom _ _ rfl) (.atom _ _ rfl) (op_lss_f (Int.not_lt.1 q1)), trivial⟩ Zw.i317 rfl rfl rowsHold_nil Zw.r317
theorem Zw.n14 {W : World} {a0 : Option Addr} {m0 c0 : Nat} {f0q0 : Nat → Int} {a1 : Option Addr} {m1 c1 : Nat} {f1q0 : Nat → Bool} {n2 : Int} (h0 : SlcOk W a0 m0 c0 1 (fun i => [.int .i64 (f0q0 i)])) (b0 : (m0 : Int) < 9223372036854775808) (r0q0 : ∀ i, R64 (f0q0 i)) (h1 : SlcOk W a1 m1 c1 1 (fun i => [.bool (f1q0 i)])) (b1 : (m1 : Int) < 9223372036854775808) (r2 : R64 n2) (x2 : Int) (x3 : Int) (g2x : R64 x2) (g3x : R64 x3) (p10 : (0 ≤ x3 ∧ x3 ≤ 30)) : NdGood Tryz.prog Tryz.f4 8 Tryz.H0 W Zw.p0 Zw.d14 [(.slice a0 m0 c0), (.slice a1 m1 c1), (.int .i64 x2), (.int .i64 x3)] :=
  ((Zw.s14 h0 b0 r0q0 h1 b1 r2 (30 - x3).toNat).1) x2 x3 g2x g3x p10 (by omega)
theorem Zw.n22 {W : World} {a0 : Option Addr} {m0 c0 : Nat} {f0q0 : Nat → Int} {a1 : Option Addr} {m1 c1 : Nat} {f1q0 : Nat → Bool} {n2 : Int} (h0 : SlcOk W a0 m0 c0 1 (fun i => [.int .i64 (f0q0 i)])) (b0 : (m0 : Int) < 9223372036854775808) (r0q0 : ∀ i, R64 (f0q0 i)) (h1 : SlcOk W a1 m1 c1 1 (fun i => [.bool (f1q0 i)])) (b1 : (m1 : Int) < 9223372036854775808) (r2 : R64 n2) (x2 : Int) (g2x : R64 x2) (p10 : (0 ≤ x2 ∧ x2 ≤ 30)) : NdGood Tryz.prog Tryz.f4 8 Tryz.H0 W Zw.p0 Zw.d22 [(.slice a0 m0 c0), (.slice a1 m1 c1), (.int .i64 x2)] :=
  ((Zw.s14 h0 b0 r0q0 h1 b1 r2 (30 - x2).toNat).2) x2 g2x p10 (by omega)
theorem Zw.s6 {W : World} {a0 : Option Addr} {m0 c0 : Nat} {f0q0 : Nat → Int} {a1 : Option Addr} {m1 c1 : Nat} {f1q0 : Nat → Bool} {n2 : Int} (h0 : SlcOk W a0 m0 c0 1 (fun i => [.int .i64 (f0q0 i)])) (b0 : (m0 : Int) < 9223372036854775808) (r0q0 : ∀ i, R64 (f0q0 i)) (h1 : SlcOk W a1 m1 c1 1 (fun i => [.bool (f1q0 i)])) (b1 : (m1 : Int) < 9223372036854775808) (r2 : R64 n2) : ∀ k : Nat, (∀ (x2 : Int) (g2x : R64 x2) (p10 : (0 ≤ x2 ∧ x2 ≤ 30)), (30 - x2) ≤ k → NdGood Tryz.prog Tryz.f4 8 Tryz.H0 W Zw.p0 Zw.d6 [(.slice a0 m0 c0), (.slice a1 m1 c1), (.int .i64 x2)]) := by
  intro k
  induction k with
  | zero =>
    intro x2 g2x p10 hk
    have ⟨gl2, gh2⟩ := g2x
    have ⟨rl2, rh2⟩ := r2
    have ⟨p10l, p10h⟩ := p10
    by_cases q1 : x2 < (m0 : Int)
    ·
      by_cases q2 : x2 < (m1 : Int)
      ·
        by_cases q3 : x2 < (30 : Int)
        ·
          have l4 : (x2).toNat < m0 := by omega
          obtain ⟨p4, v4⟩ := h0.elem l4
          have w4q0 := r0q0 (x2).toNat
          have l5 : (x2).toNat < m1 := by omega
          obtain ⟨p5, v5⟩ := h1.elem l5
          cases z6 : f1q0 (x2).toNat with
          | true =>
            obtain ⟨d7, e7, g7, o7⟩ := ex_add x2 (1 : Int)
            exfalso; omega
          | false =>
            obtain ⟨d8, e8, g8, o8⟩ := ex_add x2 (1 : Int)
            exact Zw.nx Zw.t149 [(.int .i64 (f0q0 (x2).toNat)), (.int .i64 (m0 : Int)), (.int .i64 (m1 : Int)), (.int .i64 d8)] [p4, p5] [(.slice a0 m0 c0), (.slice a1 m1 c1), (.int .i64 (f0q0 (x2).toNat)), (.int .i64 d8)] (Zw.k0 _) ⟨hold_len (.atom _ _ rfl) (.atom _ _ rfl), hold_bool (.atom _ _ rfl) (.atom _ _ rfl) (op_lss_t q1), hold_len (.atom _ _ rfl) (.atom _ _ rfl), hold_bool (.atom _ _ rfl) (.atom _ _ rfl) (op_lss_t q2), hold_bool (.atom _ _ rfl) (.int _ _) (op_lss_t q3), hold_idx v4 l4 (.atom _ _ rfl) (.atom _ _ rfl) (by omega) rfl, hold_idx v5 l5 (.atom _ _ rfl) (.atom _ _ rfl) (by omega) rfl, hold_op (.atom _ _ rfl) (.int _ _) o8 (.atom _ _ rfl), trivial⟩ Zw.i149 rfl rfl (rowsHold_cons (Elem.row v4 (VL.cons (.atom _ _ rfl) VL.nil)) (rowsHold_cons (Elem.row v5 (VL.cons (vb z6) VL.nil)) rowsHold_nil)) Zw.r149 rfl rfl (Zw.n14 h0 b0 r0q0 h1 b1 r2 (f0q0 (x2).toNat) d8 (by first | assumption | (constructor <;> omega) | trivial) (by first | assumption | (constructor <;> omega) | trivial) (by constructor <;> omega))
        ·
          exact Zw.fx Zw.t150 [(.int .i64 (m0 : Int)), (.int .i64 (m1 : Int))] [] (Zw.k0 _) ⟨hold_len (.atom _ _ rfl) (.atom _ _ rfl), hold_bool (.atom _ _ rfl) (.atom _ _ rfl) (op_lss_t q1), hold_len (.atom _ _ rfl) (.atom _ _ rfl), hold_bool (.atom _ _ rfl) (.atom _ _ rfl) (op_lss_t q2), hold_bool (.atom _ _ rfl) (.int _ _) (op_lss_f (Int.not_lt.1 q3)), trivial⟩ Zw.i150 rfl rfl rowsHold_nil Zw.r150
      ·
        exact Zw.fx Zw.t151 [(.int .i64 (m0 : Int)), (.int .i64 (m1 : Int))] [] (Zw.k0 _) ⟨hold_len (.atom _ _ rfl) (.atom _ _ rfl), hold_bool (.atom _ _ rfl) (.atom _ _ rfl) (op_lss_t q1), hold_len (.atom _ _ rfl) (.atom _ _ rfl), hold_bool (.atom _ _ rfl) (.atom _ _ rfl) (op_lss_f (Int.not_lt.1 q2)), trivial⟩ Zw.i151 rfl rfl rowsHold_nil Zw.r151
    ·
      exact Zw.fx Zw.t152 [(.int .i64 (m0 : Int))] [] (Zw.k0 _) ⟨hold_len (.atom _ _ rfl) (.atom _ _ rfl), hold_bool (.atom _ _ rfl) (.atom _ _ rfl) (op_lss_f (Int.not_lt.1 q1)), trivial⟩ Zw.i152 rfl rfl rowsHold_nil Zw.r152
  | succ k ih =>
    have ih6 := ih
    intro x2 g2x p10 hk
    have ⟨gl2, gh2⟩ := g2x
    have ⟨rl2, rh2⟩ := r2
    have ⟨p10l, p10h⟩ := p10
    by_cases q1 : x2 < (m0 : Int)
    ·
      by_cases q2 : x2 < (m1 : Int)
      ·
        by_cases q3 : x2 < (30 : Int)
        ·
          have l4 : (x2).toNat < m0 := by omega
          obtain ⟨p4, v4⟩ := h0.elem l4
          have w4q0 := r0q0 (x2).toNat
          have l5 : (x2).toNat < m1 := by omega
          obtain ⟨p5, v5⟩ := h1.elem l5
          cases z6 : f1q0 (x2).toNat with
          | true =>
            obtain ⟨d7, e7, g7, o7⟩ := ex_add x2 (1 : Int)
            exact Zw.nx Zw.t148 [(.int .i64 (f0q0 (x2).toNat)), (.int .i64 (m0 : Int)), (.int .i64 (m1 : Int)), (.int .i64 d7)] [p4, p5] [(.slice a0 m0 c0), (.slice a1 m1 c1), (.int .i64 d7)] (Zw.k0 _) ⟨hold_len (.atom _ _ rfl) (.atom _ _ rfl), hold_bool (.atom _ _ rfl) (.atom _ _ rfl) (op_lss_t q1), hold_len (.atom _ _ rfl) (.atom _ _ rfl), hold_bool (.atom _ _ rfl) (.atom _ _ rfl) (op_lss_t q2), hold_bool (.atom _ _ rfl) (.int _ _) (op_lss_t q3), hold_idx v4 l4 (.atom _ _ rfl) (.atom _ _ rfl) (by omega) rfl, hold_idx v5 l5 (.atom _ _ rfl) (.atom _ _ rfl) (by omega) rfl, hold_op (.atom _ _ rfl) (.int _ _) o7 (.atom _ _ rfl), trivial⟩ Zw.i148 rfl rfl (rowsHold_cons (Elem.row v4 (VL.cons (.atom _ _ rfl) VL.nil)) (rowsHold_cons (Elem.row v5 (VL.cons (vb z6) VL.nil)) rowsHold_nil)) Zw.r148 rfl rfl (ih6 d7 (by first | assumption | (constructor <;> omega) | trivial) (by constructor <;> omega) (by omega))
          | false =>
            obtain ⟨d8, e8, g8, o8⟩ := ex_add x2 (1 : Int)
            exact Zw.nx Zw.t149 [(.int .i64 (f0q0 (x2).toNat)), (.int .i64 (m0 : Int)), (.int .i64 (m1 : Int)), (.int .i64 d8)] [p4, p5] [(.slice a0 m0 c0), (.slice a1 m1 c1), (.int .i64 (f0q0 (x2).toNat)), (.int .i64 d8)] (Zw.k0 _) ⟨hold_len (.atom _ _ rfl) (.atom _ _ rfl), hold_bool (.atom _ _ rfl) (.atom _ _ rfl) (op_lss_t q1), hold_len (.atom _ _ rfl) (.atom _ _ rfl), hold_bool (.atom _ _ rfl) (.atom _ _ rfl) (op_lss_t q2), hold_bool (.atom _ _ rfl) (.int _ _) (op_lss_t q3), hold_idx v4 l4 (.atom _ _ rfl) (.atom _ _ rfl) (by omega) rfl, hold_idx v5 l5 (.atom _ _ rfl) (.atom _ _ rfl) (by omega) rfl, hold_op (.atom _ _ rfl) (.int _ _) o8 (.atom _ _ rfl), trivial⟩ Zw.i149 rfl rfl (rowsHold_cons (Elem.row v4 (VL.cons (.atom _ _ rfl) VL.nil)) (rowsHold_cons (Elem.row v5 (VL.cons (vb z6) VL.nil)) rowsHold_nil)) Zw.r149 rfl rfl (Zw.n14 h0 b0 r0q0 h1 b1 r2 (f0q0 (x2).toNat) d8 (by first | assumption | (constructor <;> omega) | trivial) (by first | assumption | (constructor <;> omega) | trivial) (by constructor <;> omega))
        ·
          exact Zw.fx Zw.t150 [(.int .i64 (m0 : Int)), (.int .i64 (m1 : Int))] [] (Zw.k0 _) ⟨hold_len (.atom _ _ rfl) (.atom _ _ rfl), hold_bool (.atom _ _ rfl) (.atom _ _ rfl) (op_lss_t q1), hold_len (.atom _ _ rfl) (.atom _ _ rfl), hold_bool (.atom _ _ rfl) (.atom _ _ rfl) (op_lss_t q2), hold_bool (.atom _ _ rfl) (.int _ _) (op_lss_f (Int.not_lt.1 q3)), trivial⟩ Zw.i150 rfl rfl rowsHold_nil Zw.r150
      ·
        exact Zw.fx Zw.t151 [(.int .i64 (m0 : Int)), (.int .i64 (m1 : Int))] [] (Zw.k0 _) ⟨hold_len (.atom _ _ rfl) (.atom _ _ rfl), hold_bool (.atom _ _ rfl) (.atom _ _ rfl) (op_lss_t q1), hold_len (.atom _ _ rfl) (.atom _ _ rfl), hold_bool (.atom _ _ rfl) (.atom _ _ rfl) (op_lss_f (Int.not_lt.1 q2)), trivial⟩ Zw.i151 rfl rfl rowsHold_nil Zw.r151
    ·
      exact Zw.fx Zw.t152 [(.int .i64 (m0 : Int))] [] (Zw.k0 _) ⟨hold_len (.atom _ _ rfl) (.atom _ _ rfl), hold_bool (.atom _ _ rfl) (.atom _ _ rfl) (op_lss_f (Int.not_lt.1 q1)), trivial⟩ Zw.i152 rfl rfl rowsHold_nil Zw.r152
theorem Zw.n6 {W : World} {a0 : Option Addr} {m0 c0 : Nat} {f0q0 : Nat → Int} {a1 : Option Addr} {m1 c1 : Nat} {f1q0 : Nat → Bool} {n2 : Int} (h0 : SlcOk W a0 m0 c0 1 (fun i => [.int .i64 (f0q0 i)])) (b0 : (m0 : Int) < 9223372036854775808) (r0q0 : ∀ i, R64 (f0q0 i)) (h1 : SlcOk W a1 m1 c1 1 (fun i => [.bool (f1q0 i)])) (b1 : (m1 : Int) < 9223372036854775808) (r2 : R64 n2) (x2 : Int) (g2x : R64 x2) (p10 : (0 ≤ x2 ∧ x2 ≤ 30)) : NdGood Tryz.prog Tryz.f4 8 Tryz.H0 W Zw.p0 Zw.d6 [(.slice a0 m0 c0), (.slice a1 m1 c1), (.int .i64 x2)] :=
  (Zw.s6 h0 b0 r0q0 h1 b1 r2 (30 - x2).toNat) x2 g2x p10 (by omega)
theorem Zw.s15 {W : World} {a0 : Option Addr} {m0 c0 : Nat} {f0q0 : Nat → Int} {a1 : Option Addr} {m1 c1 : Nat} {f1q0 : Nat → Bool} {n2 : Int} (h0 : SlcOk W a0 m0 c0 1 (fun i => [.int .i64 (f0q0 i)])) (b0 : (m0 : Int) < 9223372036854775808) (r0q0 : ∀ i, R64 (f0q0 i)) (h1 : SlcOk W a1 m1 c1 1 (fun i => [.bool (f1q0 i)])) (b1 : (m1 : Int) < 9223372036854775808) (r2 : R64 n2) : ∀ k : Nat, (∀ (x2 : Int) (x3 : Int) (g2x : R64 x2) (g3x : R64 x3) (p10 : (0 ≤ x3 ∧ x3 ≤ 30)), (30 - x3) ≤ k → NdGood Tryz.prog Tryz.f4 8 Tryz.H0 W Zw.p0 Zw.d15 [(.slice a0 m0 c0), (.slice a1 m1 c1), (.int .i64 x2), (.int .i64 x3)]) ∧ (∀ (x2 : Int) (g2x : R64 x2) (p10 : (0 ≤ x2 ∧ x2 ≤ 30)), (30 - x2) ≤ k → NdGood Tryz.prog Tryz.f4 8 Tryz.H0 W Zw.p0 Zw.d23 [(.slice a0 m0 c0), (.slice a1 m1 c1), (.int .i64 x2)]) := by
  intro k
  induction k with
  | zero =>
    refine ⟨?_, ?_⟩
    ·
      intro x2 x3 g2x g3x p10 hk
      have ⟨gl2, gh2⟩ := g2x
      have ⟨gl3, gh3⟩ := g3x
      have ⟨rl2, rh2⟩ := r2
      have ⟨p10l, p10h⟩ := p10
      by_cases q1 : x3 < (m0 : Int)
      ·
        by_cases q2 : x3 < (m1 : Int)
        ·
          by_cases q3 : x3 < (30 : Int)
          ·
            have l4 : (x3).toNat < m0 := by omega
            obtain ⟨p4, v4⟩ := h0.elem l4
            have w4q0 := r0q0 (x3).toNat
            have l5 : (x3).toNat < m1 := by omega
            obtain ⟨p5, v5⟩ := h1.elem l5
            cases z6 : f1q0 (x3).toNat with
            | true =>
              obtain ⟨d7, e7, g7, o7⟩ := ex_add x3 (1 : Int)
              exfalso; omega
            | false =>
              obtain ⟨d8, e8, g8, o8⟩ := ex_add x3 (1 : Int)
              exfalso; omega
          ·
            exact Zw.fx Zw.t250 [(.int .i64 (m0 : Int)), (.int .i64 (m1 : Int))] [] (Zw.k0 _) ⟨hold_len (.atom _ _ rfl) (.atom _ _ rfl), hold_bool (.atom _ _ rfl) (.atom _ _ rfl) (op_lss_t q1), hold_len (.atom _ _ rfl) (.atom _ _ rfl), hold_bool (.atom _ _ rfl) (.atom _ _ rfl) (op_lss_t q2), hold_bool (.atom _ _ rfl) (.int _ _) (op_lss_f (Int.not_lt.1 q3)), trivial⟩ Zw.i250 rfl rfl rowsHold_nil Zw.r250
        ·
          exact Zw.fx Zw.t251 [(.int .i64 (m0 : Int)), (.int .i64 (m1 : Int))] [] (Zw.k0 _) ⟨hold_len (.atom _ _ rfl) (.atom _ _ rfl), hold_bool (.atom _ _ rfl) (.atom _ _ rfl) (op_lss_t q1), hold_len (.atom _ _ rfl) (.atom _ _ rfl), hold_bool (.atom _ _ rfl) (.atom _ _ rfl) (op_lss_f (Int.not_lt.1 q2)), trivial⟩ Zw.i251 rfl rfl rowsHold_nil Zw.r251
      ·
        exact Zw.fx Zw.t252 [(.int .i64 (m0 : Int))] [] (Zw.k0 _) ⟨hold_len (.atom _ _ rfl) (.atom _ _ rfl), hold_bool (.atom _ _ rfl) (.atom _ _ rfl) (op_lss_f (Int.not_lt.1 q1)), trivial⟩ Zw.i252 rfl rfl rowsHold_nil Zw.r252
    ·
      intro x2 g2x p10 hk
      have ⟨gl2, gh2⟩ := g2x
      have ⟨rl2, rh2⟩ := r2
      have ⟨p10l, p10h⟩ := p10
      by_cases q1 : x2 < (m0 : Int)
      ·
        by_cases q2 : x2 < (m1 : Int)
        ·
          by_cases q3 : x2 < (30 : Int)
          ·
            have l4 : (x2).toNat < m0 := by omega
            obtain ⟨p4, v4⟩ := h0.elem l4
            have w4q0 := r0q0 (x2).toNat
            have l5 : (x2).toNat < m1 := by omega
            obtain ⟨p5, v5⟩ := h1.elem l5
            cases z6 : f1q0 (x2).toNat with
            | true =>
              obtain ⟨d7, e7, g7, o7⟩ := ex_add x2 (1 : Int)
              exfalso; omega
            | false =>
              obtain ⟨d8, e8, g8, o8⟩ := ex_add x2 (1 : Int)
              exfalso; omega
          ·
            exact Zw.fx Zw.t325 [(.int .i64 (m0 : Int)), (.int .i64 (m1 : Int))] [] (Zw.k0 _) ⟨hold_len (.atom _ _ rfl) (.atom _ _ rfl), hold_bool (.atom _ _ rfl) (.atom _ _ rfl) (op_lss_t q1), hold_len (.atom _ _ rfl) (.atom _ _ rfl), hold_bool (.atom _ _ rfl) (.atom _ _ rfl) (op_lss_t q2), hold_bool (.atom _ _ rfl) (.int _ _) (op_lss_f (Int.not_lt.1 q3)), trivial⟩ Zw.i325 rfl rfl rowsHold_nil Zw.r325
        ·
          exact Zw.fx Zw.t326 [(.int .i64 (m0 : Int)), (.int .i64 (m1 : Int))] [] (Zw.k0 _) ⟨hold_len (.atom _ _ rfl) (.atom _ _ rfl), hold_bool (.atom _ _ rfl) (.atom _ _ rfl) (op_lss_t q1), hold_len (.atom _ _ rfl) (.atom _ _ rfl), hold_bool (.atom _ _ rfl) (.atom _ _ rfl) (op_lss_f (Int.not_lt.1 q2)), trivial⟩ Zw.i326 rfl rfl rowsHold_nil Zw.r326
      ·
        exact Zw.fx Zw.t327 [(.int .i64 (m0 : Int))] [] (Zw.k0 _) ⟨hold_len (.atom _ _ rfl) (.atom _ _ rfl), hold_bool (.atom _ _ rfl) (.atom _ _ rfl) (op_lss_f (Int.not_lt.1 q1)), trivial⟩ Zw.i327 rfl rfl rowsHold_nil Zw.r327
  | succ k ih =>
    obtain ⟨ih15, ih23⟩ := ih
    refine ⟨?_, ?_⟩
    ·
      intro x2 x3 g2x g3x p10 hk
      have ⟨gl2, gh2⟩ := g2x
      have ⟨gl3, gh3⟩ := g3x
      have ⟨rl2, rh2⟩ := r2
      have ⟨p10l, p10h⟩ := p10
      by_cases q1 : x3 < (m0 : Int)
      ·
        by_cases q2 : x3 < (m1 : Int)
        ·
          by_cases q3 : x3 < (30 : Int)
          ·
            have l4 : (x3).toNat < m0 := by omega
            obtain ⟨p4, v4⟩ := h0.elem l4
            have w4q0 := r0q0 (x3).toNat
            have l5 : (x3).toNat < m1 := by omega
            obtain ⟨p5, v5⟩ := h1.elem l5
            cases z6 : f1q0 (x3).toNat with
            | true =>
              obtain ⟨d7, e7, g7, o7⟩ := ex_add x3 (1 : Int)
              exact Zw.nx Zw.t248 [(.int .i64 (f0q0 (x3).toNat)), (.int .i64 (m0 : Int)), (.int .i64 (m1 : Int)), (.int .i64 d7)] [p4, p5] [(.slice a0 m0 c0), (.slice a1 m1 c1), (.int .i64 d7)] (Zw.k0 _) ⟨hold_len (.atom _ _ rfl) (.atom _ _ rfl), hold_bool (.atom _ _ rfl) (.atom _ _ rfl) (op_lss_t q1), hold_len (.atom _ _ rfl) (.atom _ _ rfl), hold_bool (.atom _ _ rfl) (.atom _ _ rfl) (op_lss_t q2), hold_bool (.atom _ _ rfl) (.int _ _) (op_lss_t q3), hold_idx v4 l4 (.atom _ _ rfl) (.atom _ _ rfl) (by omega) rfl, hold_idx v5 l5 (.atom _ _ rfl) (.atom _ _ rfl) (by omega) rfl, hold_bool (.atom _ _ rfl) (.atom _ _ rfl) (op_neq_f rfl), hold_op (.atom _ _ rfl) (.int _ _) o7 (.atom _ _ rfl), trivial⟩ Zw.i248 rfl rfl (rowsHold_cons (Elem.row v4 (VL.cons (.atom _ _ rfl) VL.nil)) (rowsHold_cons (Elem.row v5 (VL.cons (vb z6) VL.nil)) rowsHold_nil)) Zw.r248 rfl rfl (ih23 d7 (by first | assumption | (constructor <;> omega) | trivial) (by constructor <;> omega) (by omega))
            | false =>
              obtain ⟨d8, e8, g8, o8⟩ := ex_add x3 (1 : Int)
              exact Zw.nx Zw.t249 [(.int .i64 (f0q0 (x3).toNat)), (.int .i64 (m0 : Int)), (.int .i64 (m1 : Int)), (.int .i64 d8)] [p4, p5] [(.slice a0 m0 c0), (.slice a1 m1 c1), (.int .i64 (f0q0 (x3).toNat)), (.int .i64 d8)] (Zw.k0 _) ⟨hold_len (.atom _ _ rfl) (.atom _ _ rfl), hold_bool (.atom _ _ rfl) (.atom _ _ rfl) (op_lss_t q1), hold_len (.atom _ _ rfl) (.atom _ _ rfl), hold_bool (.atom _ _ rfl) (.atom _ _ rfl) (op_lss_t q2), hold_bool (.atom _ _ rfl) (.int _ _) (op_lss_t q3), hold_idx v4 l4 (.atom _ _ rfl) (.atom _ _ rfl) (by omega) rfl, hold_idx v5 l5 (.atom _ _ rfl) (.atom _ _ rfl) (by omega) rfl, hold_bool (.atom _ _ rfl) (.atom _ _ rfl) (op_neq_f rfl), hold_op (.atom _ _ rfl) (.int _ _) o8 (.atom _ _ rfl), trivial⟩ Zw.i249 rfl rfl (rowsHold_cons (Elem.row v4 (VL.cons (.atom _ _ rfl) VL.nil)) (rowsHold_cons (Elem.row v5 (VL.cons (vb z6) VL.nil)) rowsHold_nil)) Zw.r249 rfl rfl (ih15 (f0q0 (x3).toNat) d8 (by first | assumption | (constructor <;> omega) | trivial) (by first | assumption | (constructor <;> omega) | trivial) (by constructor <;> omega) (by omega))
          ·
            exact Zw.fx Zw.t250 [(.int .i64 (m0 : Int)), (.int .i64 (m1 : Int))] [] (Zw.k0 _) ⟨hold_len (.atom _ _ rfl) (.atom _ _ rfl), hold_bool (.atom _ _ rfl) (.atom _ _ rfl) (op_lss_t q1), hold_len (.atom _ _ rfl) (.atom _ _ rfl), hold_bool (.atom _ _ rfl) (.atom _ _ rfl) (op_lss_t q2), hold_bool (.atom _ _ rfl) (.int _ _) (op_lss_f (Int.not_lt.1 q3)), trivial⟩ Zw.i250 rfl rfl rowsHold_nil Zw.r250
        ·
          exact Zw.fx Zw.t251 [(.int .i64 (m0 : Int)), (.int .i64 (m1 : Int))] [] (Zw.k0 _) ⟨hold_len (.atom _ _ rfl) (.atom _ _ rfl), hold_bool (.atom _ _ rfl) (.atom _ _ rfl) (op_lss_t q1), hold_len (.atom _ _ rfl) (.atom _ _ rfl), hold_bool (.atom _ _ rfl) (.atom _ _ rfl) (op_lss_f (Int.not_lt.1 q2)), trivial⟩ Zw.i251 rfl rfl rowsHold_nil Zw.r251
      ·
        exact Zw.fx Zw.t252 [(.int .i64 (m0 : Int))] [] (Zw.k0 _) ⟨hold_len (.atom _ _ rfl) (.atom _ _ rfl), hold_bool (.atom _ _ rfl) (.atom _ _ rfl) (op_lss_f (Int.not_lt.1 q1)), trivial⟩ Zw.i252 rfl rfl rowsHold_nil Zw.r252
    ·
      intro x2 g2x p10 hk
      have ⟨gl2, gh2⟩ := g2x
      have ⟨rl2, rh2⟩ := r2
      have ⟨p10l, p10h⟩ := p10
      by_cases q1 : x2 < (m0 : Int)
      ·
        by_cases q2 : x2 < (m1 : Int)
        ·
          by_cases q3 : x2 < (30 : Int)
          ·
            have l4 : (x2).toNat < m0 := by omega
            obtain ⟨p4, v4⟩ := h0.elem l4
            have w4q0 := r0q0 (x2).toNat
            have l5 : (x2).toNat < m1 := by omega
            obtain ⟨p5, v5⟩ := h1.elem l5
            cases z6 : f1q0 (x2).toNat with
            | true =>
              obtain ⟨d7, e7, g7, o7⟩ := ex_add x2 (1 : Int)
              exact Zw.nx Zw.t323 [(.int .i64 (f0q0 (x2).toNat)), (.int .i64 (m0 : Int)), (.int .i64 (m1 : Int)), (.int .i64 d7)] [p4, p5] [(.slice a0 m0 c0), (.slice a1 m1 c1), (.int .i64 d7)] (Zw.k0 _) ⟨hold_len (.atom _ _ rfl) (.atom _ _ rfl), hold_bool (.atom _ _ rfl) (.atom _ _ rfl) (op_lss_t q1), hold_len (.atom _ _ rfl) (.atom _ _ rfl), hold_bool (.atom _ _ rfl) (.atom _ _ rfl) (op_lss_t q2), hold_bool (.atom _ _ rfl) (.int _ _) (op_lss_t q3), hold_idx v4 l4 (.atom _ _ rfl) (.atom _ _ rfl) (by omega) rfl, hold_idx v5 l5 (.atom _ _ rfl) (.atom _ _ rfl) (by omega) rfl, hold_op (.atom _ _ rfl) (.int _ _) o7 (.atom _ _ rfl), trivial⟩ Zw.i323 rfl rfl (rowsHold_cons (Elem.row v4 (VL.cons (.atom _ _ rfl) VL.nil)) (rowsHold_cons (Elem.row v5 (VL.cons (vb z6) VL.nil)) rowsHold_nil)) Zw.r323 rfl rfl (ih23 d7 (by first | assumption | (constructor <;> omega) | trivial) (by constructor <;> omega) (by omega))
            | false =>
              obtain ⟨d8, e8, g8, o8⟩ := ex_add x2 (1 : Int)
              exact Zw.nx Zw.t324 [(.int .i64 (f0q0 (x2).toNat)), (.int .i64 (m0 : Int)), (.int .i64 (m1 : Int)), (.int .i64 d8)] [p4, p5] [(.slice a0 m0 c0), (.slice a1 m1 c1), (.int .i64 (f0q0 (x2).toNat)), (.int .i64 d8)] (Zw.k0 _) ⟨hold_len (.atom _ _ rfl) (.atom _ _ rfl), hold_bool (.atom _ _ rfl) (.atom _ _ rfl) (op_lss_t q1), hold_len (.atom _ _ rfl) (.atom _ _ rfl), hold_bool (.atom _ _ rfl) (.atom _ _ rfl) (op_lss_t q2), hold_bool (.atom _ _ rfl) (.int _ _) (op_lss_t q3), hold_idx v4 l4 (.atom _ _ rfl) (.atom _ _ rfl) (by omega) rfl, hold_idx v5 l5 (.atom _ _ rfl) (.atom _ _ rfl) (by omega) rfl, hold_op (.atom _ _ rfl) (.int _ _) o8 (.atom _ _ rfl), trivial⟩ Zw.i324 rfl rfl (rowsHold_cons (Elem.row v4 (VL.cons (.atom _ _ rfl) VL.nil)) (rowsHold_cons (Elem.row v5 (VL.cons (vb z6) VL.nil)) rowsHold_nil)) Zw.r324 rfl rfl (ih15 (f0q0 (x2).toNat) d8 (by first | assumption | (constructor <;> omega) | trivial) (by first | assumption | (constructor <;> omega) | trivial) (by constructor <;> omega) (by omega))
          ·
            exact Zw.fx Zw.t325 [(.int .i64 (m0 : Int)), (.int .i64 (m1 : Int))] [] (Zw.k0 _) ⟨hold_len (.atom _ _ rfl) (.atom _ _ rfl), hold_bool (.atom _ _ rfl) (.atom _ _ rfl) (op_lss_t q1), hold_len (.atom _ _ rfl) (.atom _ _ rfl), hold_bool (.atom _ _ rfl) (.atom _ _ rfl) (op_lss_t q2), hold_bool (.atom _ _ rfl) (.int _ _) (op_lss_f (Int.not_lt.1 q3)), trivial⟩ Zw.i325 rfl rfl rowsHold_nil Zw.r325
        ·
          exact Zw.fx Zw.t326 [(.int .i64 (m0 : Int)), (.int .i64 (m1 : Int))] [] (Zw.k0 _) ⟨hold_len (.atom _ _ rfl) (.atom _ _ rfl), hold_bool (.atom _ _ rfl) (.atom _ _ rfl) (op_lss_t q1), hold_len (.atom _ _ rfl) (.atom _ _ rfl), hold_bool (.atom _ _ rfl) (.atom _ _ rfl) (op_lss_f (Int.not_lt.1 q2)), trivial⟩ Zw.i326 rfl rfl rowsHold_nil Zw.r326
      ·
        exact Zw.fx Zw.t327 [(.int .i64 (m0 : Int))] [] (Zw.k0 _) ⟨hold_len (.atom _ _ rfl) (.atom _ _ rfl), hold_bool (.atom _ _ rfl) (.atom _ _ rfl) (op_lss_f (Int.not_lt.1 q1)), trivial⟩ Zw.i327 rfl rfl rowsHold_nil Zw.r327
theorem Zw.n15 {W : World} {a0 : Option Addr} {m0 c0 : Nat} {f0q0 : Nat → Int} {a1 : Option Addr} {m1 c1 : Nat} {f1q0 : Nat → Bool} {n2 : Int} (h0 : SlcOk W a0 m0 c0 1 (fun i => [.int .i64 (f0q0 i)])) (b0 : (m0 : Int) < 9223372036854775808) (r0q0 : ∀ i, R64 (f0q0 i)) (h1 : SlcOk W a1 m1 c1 1 (fun i => [.bool (f1q0 i)])) (b1 : (m1 : Int) < 9223372036854775808) (r2 : R64 n2) (x2 : Int) (x3 : Int) (g2x : R64 x2) (g3x : R64 x3) (p10 : (0 ≤ x3 ∧ x3 ≤ 30)) : NdGood Tryz.prog Tryz.f4 8 Tryz.H0 W Zw.p0 Zw.d15 [(.slice a0 m0 c0), (.slice a1 m1 c1), (.int .i64 x2), (.int .i64 x3)] :=
  ((Zw.s15 h0 b0 r0q0 h1 b1 r2 (30 - x3).toNat).1) x2 x3 g2x g3x p10 (by omega)
theorem Zw.n23 {W : World} {a0 : Option Addr} {m0 c0 : Nat} {f0q0 : Nat → Int} {a1 : Option Addr} {m1 c1 : Nat} {f1q0 : Nat → Bool} {n2 : Int} (h0 : SlcOk W a0 m0 c0 1 (fun i => [.int .i64 (f0q0 i)])) (b0 : (m0 : Int) < 9223372036854775808) (r0q0 : ∀ i, R64 (f0q0 i)) (h1 : SlcOk W a1 m1 c1 1 (fun i => [.bool (f1q0 i)])) (b1 : (m1 : Int) < 9223372036854775808) (r2 : R64 n2) (x2 : Int) (g2x : R64 x2) (p10 : (0 ≤ x2 ∧ x2 ≤ 30)) : NdGood Tryz.prog Tryz.f4 8 Tryz.H0 W Zw.p0 Zw.d23 [(.slice a0 m0 c0), (.slice a1 m1 c1), (.int .i64 x2)] :=
  ((Zw.s15 h0 b0 r0q0 h1 b1 r2 (30 - x2).toNat).2) x2 g2x p10 (by omega)
theorem Zw.s7 {W : World} {a0 : Option Addr} {m0 c0 : Nat} {f0q0 : Nat → Int} {a1 : Option Addr} {m1 c1 : Nat} {f1q0 : Nat → Bool} {n2 : Int} (h0 : SlcOk W a0 m0 c0 1 (fun i => [.int .i64 (f0q0 i)])) (b0 : (m0 : Int) < 9223372036854775808) (r0q0 : ∀ i, R64 (f0q0 i)) (h1 : SlcOk W a1 m1 c1 1 (fun i => [.bool (f1q0 i)])) (b1 : (m1 : Int) < 9223372036854775808) (r2 : R64 n2) : ∀ k : Nat, (∀ (x2 : Int) (g2x : R64 x2) (p10 : (0 ≤ x2 ∧ x2 ≤ 30)), (30 - x2) ≤ k → NdGood Tryz.prog Tryz.f4 8 Tryz.H0 W Zw.p0 Zw.d7 [(.slice a0 m0 c0), (.slice a1 m1 c1), (.int .i64 x2)]) := by
  intro k
  induction k with
  | zero =>
    intro x2 g2x p10 hk
    have ⟨gl2, gh2⟩ := g2x
    have ⟨rl2, rh2⟩ := r2
    have ⟨p10l, p10h⟩ := p10
    by_cases q1 : x2 < (m0 : Int)
    ·
      by_cases q2 : x2 < (m1 : Int)
      ·
        by_cases q3 : x2 < (30 : Int)
        ·
          have l4 : (x2).toNat < m0 := by omega
          obtain ⟨p4, v4⟩ := h0.elem l4
          have w4q0 := r0q0 (x2).toNat
          have l5 : (x2).toNat < m1 := by omega
          obtain ⟨p5, v5⟩ := h1.elem l5
          cases z6 : f1q0 (x2).toNat with
          | true =>
            obtain ⟨d7, e7, g7, o7⟩ := ex_add x2 (1 : Int)
            exfalso; omega
          | false =>
            obtain ⟨d8, e8, g8, o8⟩ := ex_add x2 (1 : Int)
            exact Zw.nx Zw.t169 [(.int .i64 (f0q0 (x2).toNat)), (.int .i64 (m0 : Int)), (.int .i64 (m1 : Int)), (.int .i64 d8)] [p4, p5] [(.slice a0 m0 c0), (.slice a1 m1 c1), (.int .i64 (f0q0 (x2).toNat)), (.int .i64 d8)] (Zw.k0 _) ⟨hold_len (.atom _ _ rfl) (.atom _ _ rfl), hold_bool (.atom _ _ rfl) (.atom _ _ rfl) (op_lss_t q1), hold_len (.atom _ _ rfl) (.atom _ _ rfl), hold_bool (.atom _ _ rfl) (.atom _ _ rfl) (op_lss_t q2), hold_bool (.atom _ _ rfl) (.int _ _) (op_lss_t q3), hold_idx v4 l4 (.atom _ _ rfl) (.atom _ _ rfl) (by omega) rfl, hold_idx v5 l5 (.atom _ _ rfl) (.atom _ _ rfl) (by omega) rfl, hold_op (.atom _ _ rfl) (.int _ _) o8 (.atom _ _ rfl), trivial⟩ Zw.i169 rfl rfl (rowsHold_cons (Elem.row v4 (VL.cons (.atom _ _ rfl) VL.nil)) (rowsHold_cons (Elem.row v5 (VL.cons (vb z6) VL.nil)) rowsHold_nil)) Zw.r169 rfl rfl (Zw.n15 h0 b0 r0q0 h1 b1 r2 (f0q0 (x2).toNat) d8 (by first | assumption | (constructor <;> omega) | trivial) (by first | assumption | (constructor <;> omega) | trivial) (by constructor <;> omega))
        ·
          exact Zw.fx Zw.t170 [(.int .i64 (m0 : Int)), (.int .i64 (m1 : Int))] [] (Zw.k0 _) ⟨hold_len (.atom _ _ rfl) (.atom _ _ rfl), hold_bool (.atom _ _ rfl) (.atom _ _ rfl) (op_lss_t q1), hold_len (.atom _ _ rfl) (.atom _ _ rfl), hold_bool (.atom _ _ rfl) (.atom _ _ rfl) (op_lss_t q2), hold_bool (.atom _ _ rfl) (.int _ _) (op_lss_f (Int.not_lt.1 q3)), trivial⟩ Zw.i170 rfl rfl rowsHold_nil Zw.r170
      ·
        exact Zw.fx Zw.t171 [(.int .i64 (m0 : Int)), (.int .i64 (m1 : Int))] [] (Zw.k0 _) ⟨hold_len (.atom _ _ rfl) (.atom _ _ rfl), hold_bool (.atom _ _ rfl) (.atom _ _ rfl) (op_lss_t q1), hold_len (.atom _ _ rfl) (.atom _ _ rfl), hold_bool (.atom _ _ rfl) (.atom _ _ rfl) (op_lss_f (Int.not_lt.1 q2)), trivial⟩ Zw.i171 rfl rfl rowsHold_nil Zw.r171
    ·
      exact Zw.fx Zw.t172 [(.int .i64 (m0 : Int))] [] (Zw.k0 _) ⟨hold_len (.atom _ _ rfl) (.atom _ _ rfl), hold_bool (.atom _ _ rfl) (.atom _ _ rfl) (op_lss_f (Int.not_lt.1 q1)), trivial⟩ Zw.i172 rfl rfl rowsHold_nil Zw.r172
  | succ k ih =>
    have ih7 := ih
    intro x2 g2x p10 hk
    have ⟨gl2, gh2⟩ := g2x
    have ⟨rl2, rh2⟩ := r2
    have ⟨p10l, p10h⟩ := p10
    by_cases q1 : x2 < (m0 : Int)
    ·
      by_cases q2 : x2 < (m1 : Int)
      ·
        by_cases q3 : x2 < (30 : Int)
        ·
          have l4 : (x2).toNat < m0 := by omega
          obtain ⟨p4, v4⟩ := h0.elem l4
          have w4q0 := r0q0 (x2).toNat
          have l5 : (x2).toNat < m1 := by omega
          obtain ⟨p5, v5⟩ := h1.elem l5
          cases z6 : f1q0 (x2).toNat with
          | true =>
            obtain ⟨d7, e7, g7, o7⟩ := ex_add x2 (1 : Int)
            exact Zw.nx Zw.t168 [(.int .i64 (f0q0 (x2).toNat)), (.int .i64 (m0 : Int)), (.int .i64 (m1 : Int)), (.int .i64 d7)] [p4, p5] [(.slice a0 m0 c0), (.slice a1 m1 c1), (.int .i64 d7)] (Zw.k0 _) ⟨hold_len (.atom _ _ rfl) (.atom _ _ rfl), hold_bool (.atom _ _ rfl) (.atom _ _ rfl) (op_lss_t q1), hold_len (.atom _ _ rfl) (.atom _ _ rfl), hold_bool (.atom _ _ rfl) (.atom _ _ rfl) (op_lss_t q2), hold_bool (.atom _ _ rfl) (.int _ _) (op_lss_t q3), hold_idx v4 l4 (.atom _ _ rfl) (.atom _ _ rfl) (by omega) rfl, hold_idx v5 l5 (.atom _ _ rfl) (.atom _ _ rfl) (by omega) rfl, hold_op (.atom _ _ rfl) (.int _ _) o7 (.atom _ _ rfl), trivial⟩ Zw.i168 rfl rfl (rowsHold_cons (Elem.row v4 (VL.cons (.atom _ _ rfl) VL.nil)) (rowsHold_cons (Elem.row v5 (VL.cons (vb z6) VL.nil)) rowsHold_nil)) Zw.r168 rfl rfl (ih7 d7 (by first | assumption | (constructor <;> omega) | trivial) (by constructor <;> omega) (by omega))
          | false =>
            obtain ⟨d8, e8, g8, o8⟩ := ex_add x2 (1 : Int)
            exact Zw.nx Zw.t169 [(.int .i64 (f0q0 (x2).toNat)), (.int .i64 (m0 : Int)), (.int .i64 (m1 : Int)), (.int .i64 d8)] [p4, p5] [(.slice a0 m0 c0), (.slice a1 m1 c1), (.int .i64 (f0q0 (x2).toNat)), (.int .i64 d8)] (Zw.k0 _) ⟨hold_len (.atom _ _ rfl) (.atom _ _ rfl), hold_bool (.atom _ _ rfl) (.atom _ _ rfl) (op_lss_t q1), hold_len (.atom _ _ rfl) (.atom _ _ rfl), hold_bool (.atom _ _ rfl) (.atom _ _ rfl) (op_lss_t q2), hold_bool (.atom _ _ rfl) (.int _ _) (op_lss_t q3), hold_idx v4 l4 (.atom _ _ rfl) (.atom _ _ rfl) (by omega) rfl, hold_idx v5 l5 (.atom _ _ rfl) (.atom _ _ rfl) (by omega) rfl, hold_op (.atom _ _ rfl) (.int _ _) o8 (.atom _ _ rfl), trivial⟩ Zw.i169 rfl rfl (rowsHold_cons (Elem.row v4 (VL.cons (.atom _ _ rfl) VL.nil)) (rowsHold_cons (Elem.row v5 (VL.cons (vb z6) VL.nil)) rowsHold_nil)) Zw.r169 rfl rfl (Zw.n15 h0 b0 r0q0 h1 b1 r2 (f0q0 (x2).toNat) d8 (by first | assumption | (constructor <;> omega) | trivial) (by first | assumption | (constructor <;> omega) | trivial) (by constructor <;> omega))
        ·
          exact Zw.fx Zw.t170 [(.int .i64 (m0 : Int)), (.int .i64 (m1 : Int))] [] (Zw.k0 _) ⟨hold_len (.atom _ _ rfl) (.atom _ _ rfl), hold_bool (.atom _ _ rfl) (.atom _ _ rfl) (op_lss_t q1), hold_len (.atom _ _ rfl) (.atom _ _ rfl), hold_bool (.atom _ _ rfl) (.atom _ _ rfl) (op_lss_t q2), hold_bool (.atom _ _ rfl) (.int _ _) (op_lss_f (Int.not_lt.1 q3)), trivial⟩ Zw.i170 rfl rfl rowsHold_nil Zw.r170
      ·
        exact Zw.fx Zw.t171 [(.int .i64 (m0 : Int)), (.int .i64 (m1 : Int))] [] (Zw.k0 _) ⟨hold_len (.atom _ _ rfl) (.atom _ _ rfl), hold_bool (.atom _ _ rfl) (.atom _ _ rfl) (op_lss_t q1), hold_len (.atom _ _ rfl) (.atom _ _ rfl), hold_bool (.atom _ _ rfl) (.atom _ _ rfl) (op_lss_f (Int.not_lt.1 q2)), trivial⟩ Zw.i171 rfl rfl rowsHold_nil Zw.r171
    ·
      exact Zw.fx Zw.t172 [(.int .i64 (m0 : Int))] [] (Zw.k0 _) ⟨hold_len (.atom _ _ rfl) (.atom _ _ rfl), hold_bool (.atom _ _ rfl) (.atom _ _ rfl) (op_lss_f (Int.not_lt.1 q1)), trivial⟩ Zw.i172 rfl rfl rowsHold_nil Zw.r172
theorem Zw.n7 {W : World} {a0 : Option Addr} {m0 c0 : Nat} {f0q0 : Nat → Int} {a1 : Option Addr} {m1 c1 : Nat} {f1q0 : Nat → Bool} {n2 : Int} (h0 : SlcOk W a0 m0 c0 1 (fun i => [.int .i64 (f0q0 i)])) (b0 : (m0 : Int) < 9223372036854775808) (r0q0 : ∀ i, R64 (f0q0 i)) (h1 : SlcOk W a1 m1 c1 1 (fun i => [.bool (f1q0 i)])) (b1 : (m1 : Int) < 9223372036854775808) (r2 : R64 n2) (x2 : Int) (g2x : R64 x2) (p10 : (0 ≤ x2 ∧ x2 ≤ 30)) : NdGood Tryz.prog Tryz.f4 8 Tryz.H0 W Zw.p0 Zw.d7 [(.slice a0 m0 c0), (.slice a1 m1 c1), (.int .i64 x2)] :=
  (Zw.s7 h0 b0 r0q0 h1 b1 r2 (30 - x2).toNat) x2 g2x p10 (by omega)
theorem Zw.s16 {W : World} {a0 : Option Addr} {m0 c0 : Nat} {f0q0 : Nat → Int} {a1 : Option Addr} {m1 c1 : Nat} {f1q0 : Nat → Bool} {n2 : Int} (h0 : SlcOk W a0 m0 c0 1 (fun i => [.int .i64 (f0q0 i)])) (b0 : (m0 : Int) < 9223372036854775808) (r0q0 : ∀ i, R64 (f0q0 i)) (h1 : SlcOk W a1 m1 c1 1 (fun i => [.bool (f1q0 i)])) (b1 : (m1 : Int) < 9223372036854775808) (r2 : R64 n2) : ∀ k : Nat, (∀ (x2 : Int) (x3 : Int) (g2x : R64 x2) (g3x : R64 x3) (p10 : (0 ≤ x3 ∧ x3 ≤ 30)), (30 - x3) ≤ k → NdGood Tryz.prog Tryz.f4 8 Tryz.H0 W Zw.p0 Zw.d16 [(.slice a0 m0 c0), (.slice a1 m1 c1), (.int .i64 x2), (.int .i64 x3)]) ∧ (∀ (x2 : Int) (g2x : R64 x2) (p10 : (0 ≤ x2 ∧ x2 ≤ 30)), (30 - x2) ≤ k → NdGood Tryz.prog Tryz.f4 8 Tryz.H0 W Zw.p0 Zw.d24 [(.slice a0 m0 c0), (.slice a1 m1 c1), (.int .i64 x2)]) := by
  intro k
  induction k with
  | zero =>
    refine ⟨?_, ?_⟩
    ·
      intro x2 x3 g2x g3x p10 hk
      have ⟨gl2, gh2⟩ := g2x
      have ⟨gl3, gh3⟩ := g3x
      have ⟨rl2, rh2⟩ := r2
      have ⟨p10l, p10h⟩ := p10
      by_cases q1 : x3 < (m0 : Int)
      ·
        by_cases q2 : x3 < (m1 : Int)
        ·
          by_cases q3 : x3 < (30 : Int)
          ·
            have l4 : (x3).toNat < m0 := by omega
            obtain ⟨p4, v4⟩ := h0.elem l4
            have w4q0 := r0q0 (x3).toNat
            have l5 : (x3).toNat < m1 := by omega
            obtain ⟨p5, v5⟩ := h1.elem l5
            cases z6 : f1q0 (x3).toNat with
            | true =>
              obtain ⟨d7, e7, g7, o7⟩ := ex_add x3 (1 : Int)
              exfalso; omega
            | false =>
              obtain ⟨d8, e8, g8, o8⟩ := ex_add x3 (1 : Int)
              exfalso; omega
          ·
            exact Zw.fx Zw.t255 [(.int .i64 (m0 : Int)), (.int .i64 (m1 : Int))] [] (Zw.k0 _) ⟨hold_len (.atom _ _ rfl) (.atom _ _ rfl), hold_bool (.atom _ _ rfl) (.atom _ _ rfl) (op_lss_t q1), hold_len (.atom _ _ rfl) (.atom _ _ rfl), hold_bool (.atom _ _ rfl) (.atom _ _ rfl) (op_lss_t q2), hold_bool (.atom _ _ rfl) (.int _ _) (op_lss_f (Int.not_lt.1 q3)), trivial⟩ Zw.i255 rfl rfl rowsHold_nil Zw.r255
        ·
          exact Zw.fx Zw.t256 [(.int .i64 (m0 : Int)), (.int .i64 (m1 : Int))] [] (Zw.k0 _) ⟨hold_len (.atom _ _ rfl) (.atom _ _ rfl), hold_bool (.atom _ _ rfl) (.atom _ _ rfl) (op_lss_t q1), hold_len (.atom _ _ rfl) (.atom _ _ rfl), hold_bool (.atom _ _ rfl) (.atom _ _ rfl) (op_lss_f (Int.not_lt.1 q2)), trivial⟩ Zw.i256 rfl rfl rowsHold_nil Zw.r256
      ·
        exact Zw.fx Zw.t257 [(.int .i64 (m0 : Int))] [] (Zw.k0 _) ⟨hold_len (.atom _ _ rfl) (.atom _ _ rfl), hold_bool (.atom _ _ rfl) (.atom _ _ rfl) (op_lss_f (Int.not_lt.1 q1)), trivial⟩ Zw.i257 rfl rfl rowsHold_nil Zw.r257
    ·
      intro x2 g2x p10 hk
      have ⟨gl2, gh2⟩ := g2x
      have ⟨rl2, rh2⟩ := r2
      have ⟨p10l, p10h⟩ := p10
      by_cases q1 : x2 < (m0 : Int)
      ·
        by_cases q2 : x2 < (m1 : Int)
        ·
          by_cases q3 : x2 < (30 : Int)
          ·
            have l4 : (x2).toNat < m0 := by omega
            obtain ⟨p4, v4⟩ := h0.elem l4
            have w4q0 := r0q0 (x2).toNat
            have l5 : (x2).toNat < m1 := by omega
            obtain ⟨p5, v5⟩ := h1.elem l5
            cases z6 : f1q0 (x2).toNat with
            | true =>
              obtain ⟨d7, e7, g7, o7⟩ := ex_add x2 (1 : Int)
              exfalso; omega
            | false =>
              obtain ⟨d8, e8, g8, o8⟩ := ex_add x2 (1 : Int)
              exfalso; omega
          ·
            exact Zw.fx Zw.t335 [(.int .i64 (m0 : Int)), (.int .i64 (m1 : Int))] [] (Zw.k0 _) ⟨hold_len (.atom _ _ rfl) (.atom _ _ rfl), hold_bool (.atom _ _ rfl) (.atom _ _ rfl) (op_lss_t q1), hold_len (.atom _ _ rfl) (.atom _ _ rfl), hold_bool (.atom _ _ rfl) (.atom _ _ rfl) (op_lss_t q2), hold_bool (.atom _ _ rfl) (.int _ _) (op_lss_f (Int.not_lt.1 q3)), trivial⟩ Zw.i335 rfl rfl rowsHold_nil Zw.r335
        ·
          exact Zw.fx Zw.t336 [(.int .i64 (m0 : Int)), (.int .i64 (m1 : Int))] [] (Zw.k0 _) ⟨hold_len (.atom _ _ rfl) (.atom _ _ rfl), hold_bool (.atom _ _ rfl) (.atom _ _ rfl) (op_lss_t q1), hold_len (.atom _ _ rfl) (.atom _ _ rfl), hold_bool (.atom _ _ rfl) (.atom _ _ rfl) (op_lss_f (Int.not_lt.1 q2)), trivial⟩ Zw.i336 rfl rfl rowsHold_nil Zw.r336
      ·
        exact Zw.fx Zw.t337 [(.int .i64 (m0 : Int))] [] (Zw.k0 _) ⟨hold_len (.atom _ _ rfl) (.atom _ _ rfl), hold_bool (.atom _ _ rfl) (.atom _ _ rfl) (op_lss_f (Int.not_lt.1 q1)), trivial⟩ Zw.i337 rfl rfl rowsHold_nil Zw.r337
  | succ k ih =>
    obtain ⟨ih16, ih24⟩ := ih
    refine ⟨?_, ?_⟩
    ·
      intro x2 x3 g2x g3x p10 hk
      have ⟨gl2, gh2⟩ := g2x
      have ⟨gl3, gh3⟩ := g3x
      have ⟨rl2, rh2⟩ := r2
      have ⟨p10l, p10h⟩ := p10
      by_cases q1 : x3 < (m0 : Int)
      ·
        by_cases q2 : x3 < (m1 : Int)
        ·
          by_cases q3 : x3 < (30 : Int)
          ·
            have l4 : (x3).toNat < m0 := by omega
            obtain ⟨p4, v4⟩ := h0.elem l4
            have w4q0 := r0q0 (x3).toNat
            have l5 : (x3).toNat < m1 := by omega
            obtain ⟨p5, v5⟩ := h1.elem l5
            cases z6 : f1q0 (x3).toNat with
            | true =>
              obtain ⟨d7, e7, g7, o7⟩ := ex_add x3 (1 : Int)
              exact Zw.nx Zw.t253 [(.int .i64 (f0q0 (x3).toNat)), (.int .i64 (m0 : Int)), (.int .i64 (m1 : Int)), (.int .i64 d7)] [p4, p5] [(.slice a0 m0 c0), (.slice a1 m1 c1), (.int .i64 d7)] (Zw.k0 _) ⟨hold_len (.atom _ _ rfl) (.atom _ _ rfl), hold_bool (.atom _ _ rfl) (.atom _ _ rfl) (op_lss_t q1), hold_len (.atom _ _ rfl) (.atom _ _ rfl), hold_bool (.atom _ _ rfl) (.atom _ _ rfl) (op_lss_t q2), hold_bool (.atom _ _ rfl) (.int _ _) (op_lss_t q3), hold_idx v4 l4 (.atom _ _ rfl) (.atom _ _ rfl) (by omega) rfl, hold_idx v5 l5 (.atom _ _ rfl) (.atom _ _ rfl) (by omega) rfl, hold_bool (.atom _ _ rfl) (.atom _ _ rfl) (op_neq_f rfl), hold_op (.atom _ _ rfl) (.int _ _) o7 (.atom _ _ rfl), trivial⟩ Zw.i253 rfl rfl (rowsHold_cons (Elem.row v4 (VL.cons (.atom _ _ rfl) VL.nil)) (rowsHold_cons (Elem.row v5 (VL.cons (vb z6) VL.nil)) rowsHold_nil)) Zw.r253 rfl rfl (ih24 d7 (by first | assumption | (constructor <;> omega) | trivial) (by constructor <;> omega) (by omega))
            | false =>
              obtain ⟨d8, e8, g8, o8⟩ := ex_add x3 (1 : Int)
              exact Zw.nx Zw.t254 [(.int .i64 (f0q0 (x3).toNat)), (.int .i64 (m0 : Int)), (.int .i64 (m1 : Int)), (.int .i64 d8)] [p4, p5] [(.slice a0 m0 c0), (.slice a1 m1 c1), (.int .i64 (f0q0 (x3).toNat)), (.int .i64 d8)] (Zw.k0 _) ⟨hold_len (.atom _ _ rfl) (.atom _ _ rfl), hold_bool (.atom _ _ rfl) (.atom _ _ rfl) (op_lss_t q1), hold_len (.atom _ _ rfl) (.atom _ _ rfl), hold_bool (.atom _ _ rfl) (.atom _ _ rfl) (op_lss_t q2), hold_bool (.atom _ _ rfl) (.int _ _) (op_lss_t q3), hold_idx v4 l4 (.atom _ _ rfl) (.atom _ _ rfl) (by omega) rfl, hold_idx v5 l5 (.atom _ _ rfl) (.atom _ _ rfl) (by omega) rfl, hold_bool (.atom _ _ rfl) (.atom _ _ rfl) (op_neq_f rfl), hold_op (.atom _ _ rfl) (.int _ _) o8 (.atom _ _ rfl), trivial⟩ Zw.i254 rfl rfl (rowsHold_cons (Elem.row v4 (VL.cons (.atom _ _ rfl) VL.nil)) (rowsHold_cons (Elem.row v5 (VL.cons (vb z6) VL.nil)) rowsHold_nil)) Zw.r254 rfl rfl (ih16 (f0q0 (x3).toNat) d8 (by first | assumption | (constructor <;> omega) | trivial) (by first | assumption | (constructor <;> omega) | trivial) (by constructor <;> omega) (by omega))
          ·
            exact Zw.fx Zw.t255 [(.int .i64 (m0 : Int)), (.int .i64 (m1 : Int))] [] (Zw.k0 _) ⟨hold_len (.atom _ _ rfl) (.atom _ _ rfl), hold_bool (.atom _ _ rfl) (.atom _ _ rfl) (op_lss_t q1), hold_len (.atom _ _ rfl) (.atom _ _ rfl), hold_bool (.atom _ _ rfl) (.atom _ _ rfl) (op_lss_t q2), hold_bool (.atom _ _ rfl) (.int _ _) (op_lss_f (Int.not_lt.1 q3)), trivial⟩ Zw.i255 rfl rfl rowsHold_nil Zw.r255
        ·
          exact Zw.fx Zw.t256 [(.int .i64 (m0 : Int)), (.int .i64 (m1 : Int))] [] (Zw.k0 _) ⟨hold_len (.atom _ _ rfl) (.atom _ _ rfl), hold_bool (.atom _ _ rfl) (.atom _ _ rfl) (op_lss_t q1), hold_len (.atom _ _ rfl) (.atom _ _ rfl), hold_bool (.atom _ _ rfl) (.atom _ _ rfl) (op_lss_f (Int.not_lt.1 q2)), trivial⟩ Zw.i256 rfl rfl rowsHold_nil Zw.r256
      ·
        exact Zw.fx Zw.t257 [(.int .i64 (m0 : Int))] [] (Zw.k0 _) ⟨hold_len (.atom _ _ rfl) (.atom _ _ rfl), hold_bool (.atom _ _ rfl) (.atom _ _ rfl) (op_lss_f (Int.not_lt.1 q1)), trivial⟩ Zw.i257 rfl rfl rowsHold_nil Zw.r257
    ·
      intro x2 g2x p10 hk
      have ⟨gl2, gh2⟩ := g2x
      have ⟨rl2, rh2⟩ := r2
      have ⟨p10l, p10h⟩ := p10
      by_cases q1 : x2 < (m0 : Int)
      ·
        by_cases q2 : x2 < (m1 : Int)
        ·
          by_cases q3 : x2 < (30 : Int)
          ·
            have l4 : (x2).toNat < m0 := by omega
            obtain ⟨p4, v4⟩ := h0.elem l4
            have w4q0 := r0q0 (x2).toNat
            have l5 : (x2).toNat < m1 := by omega
            obtain ⟨p5, v5⟩ := h1.elem l5
            cases z6 : f1q0 (x2).toNat with
            | true =>
              obtain ⟨d7, e7, g7, o7⟩ := ex_add x2 (1 : Int)
              exact Zw.nx Zw.t333 [(.int .i64 (f0q0 (x2).toNat)), (.int .i64 (m0 : Int)), (.int .i64 (m1 : Int)), (.int .i64 d7)] [p4, p5] [(.slice a0 m0 c0), (.slice a1 m1 c1), (.int .i64 d7)] (Zw.k0 _) ⟨hold_len (.atom _ _ rfl) (.atom _ _ rfl), hold_bool (.atom _ _ rfl) (.atom _ _ rfl) (op_lss_t q1), hold_len (.atom _ _ rfl) (.atom _ _ rfl), hold_bool (.atom _ _ rfl) (.atom _ _ rfl) (op_lss_t q2), hold_bool (.atom _ _ rfl) (.int _ _) (op_lss_t q3), hold_idx v4 l4 (.atom _ _ rfl) (.atom _ _ rfl) (by omega) rfl, hold_idx v5 l5 (.atom _ _ rfl) (.atom _ _ rfl) (by omega) rfl, hold_op (.atom _ _ rfl) (.int _ _) o7 (.atom _ _ rfl), trivial⟩ Zw.i333 rfl rfl (rowsHold_cons (Elem.row v4 (VL.cons (.atom _ _ rfl) VL.nil)) (rowsHold_cons (Elem.row v5 (VL.cons (vb z6) VL.nil)) rowsHold_nil)) Zw.r333 rfl rfl (ih24 d7 (by first | assumption | (constructor <;> omega) | trivial) (by constructor <;> omega) (by omega))
            | false =>
              obtain ⟨d8, e8, g8, o8⟩ := ex_add x2 (1 : Int)
              exact Zw.nx Zw.t334 [(.int .i64 (f0q0 (x2).toNat)), (.int .i64 (m0 : Int)), (.int .i64 (m1 : Int)), (.int .i64 d8)] [p4, p5] [(.slice a0 m0 c0), (.slice a1 m1 c1), (.int .i64 (f0q0 (x2).toNat)), (.int .i64 d8)] (Zw.k0 _) ⟨hold_len (.atom _ _ rfl) (.atom _ _ rfl), hold_bool (.atom _ _ rfl) (.atom _ _ rfl) (op_lss_t q1), hold_len (.atom _ _ rfl) (.atom _ _ rfl), hold_bool (.atom _ _ rfl) (.atom _ _ rfl) (op_lss_t q2), hold_bool (.atom _ _ rfl) (.int _ _) (op_lss_t q3), hold_idx v4 l4 (.atom _ _ rfl) (.atom _ _ rfl) (by omega) rfl, hold_idx v5 l5 (.atom _ _ rfl) (.atom _ _ rfl) (by omega) rfl, hold_op (.atom _ _ rfl) (.int _ _) o8 (.atom _ _ rfl), trivial⟩ Zw.i334 rfl rfl (rowsHold_cons (Elem.row v4 (VL.cons (.atom _ _ rfl) VL.nil)) (rowsHold_cons (Elem.row v5 (VL.cons (vb z6) VL.nil)) rowsHold_nil)) Zw.r334 rfl rfl (ih16 (f0q0 (x2).toNat) d8 (by first | assumption | (constructor <;> omega) | trivial) (by first | assumption | (constructor <;> omega) | trivial) (by constructor <;> omega) (by omega))
          ·
            exact Zw.fx Zw.t335 [(.int .i64 (m0 : Int)), (.int .i64 (m1 : Int))] [] (Zw.k0 _) ⟨hold_len (.atom _ _ rfl) (.atom _ _ rfl), hold_bool (.atom _ _ rfl) (.atom _ _ rfl) (op_lss_t q1), hold_len (.atom _ _ rfl) (.atom _ _ rfl), hold_bool (.atom _ _ rfl) (.atom _ _ rfl) (op_lss_t q2), hold_bool (.atom _ _ rfl) (.int _ _) (op_lss_f (Int.not_lt.1 q3)), trivial⟩ Zw.i335 rfl rfl rowsHold_nil Zw.r335
        ·
          exact Zw.fx Zw.t336 [(.int .i64 (m0 : Int)), (.int .i64 (m1 : Int))] [] (Zw.k0 _) ⟨hold_len (.atom _ _ rfl) (.atom _ _ rfl), hold_bool (.atom _ _ rfl) (.atom _ _ rfl) (op_lss_t q1), hold_len (.atom _ _ rfl) (.atom _ _ rfl), hold_bool (.atom _ _ rfl) (.atom _ _ rfl) (op_lss_f (Int.not_lt.1 q2)), trivial⟩ Zw.i336 rfl rfl rowsHold_nil Zw.r336
      ·
        exact Zw.fx Zw.t337 [(.int .i64 (m0 : Int))] [] (Zw.k0 _) ⟨hold_len (.atom _ _ rfl) (.atom _ _ rfl), hold_bool (.atom _ _ rfl) (.atom _ _ rfl) (op_lss_f (Int.not_lt.1 q1)), trivial⟩ Zw.i337 rfl rfl rowsHold_nil Zw.r337
theorem Zw.n16 {W : World} {a0 : Option Addr} {m0 c0 : Nat} {f0q0 : Nat → Int} {a1 : Option Addr} {m1 c1 : Nat} {f1q0 : Nat → Bool} {n2 : Int} (h0 : SlcOk W a0 m0 c0 1 (fun i => [.int .i64 (f0q0 i)])) (b0 : (m0 : Int) < 9223372036854775808) (r0q0 : ∀ i, R64 (f0q0 i)) (h1 : SlcOk W a1 m1 c1 1 (fun i => [.bool (f1q0 i)])) (b1 : (m1 : Int) < 9223372036854775808) (r2 : R64 n2) (x2 : Int) (x3 : Int) (g2x : R64 x2) (g3x : R64 x3) (p10 : (0 ≤ x3 ∧ x3 ≤ 30)) : NdGood Tryz.prog Tryz.f4 8 Tryz.H0 W Zw.p0 Zw.d16 [(.slice a0 m0 c0), (.slice a1 m1 c1), (.int .i64 x2), (.int .i64 x3)] :=
  ((Zw.s16 h0 b0 r0q0 h1 b1 r2 (30 - x3).toNat).1) x2 x3 g2x g3x p10 (by omega)
theorem Zw.n24 {W : World} {a0 : Option Addr} {m0 c0 : Nat} {f0q0 : Nat → Int} {a1 : Option Addr} {m1 c1 : Nat} {f1q0 : Nat → Bool} {n2 : Int} (h0 : SlcOk W a0 m0 c0 1 (fun i => [.int .i64 (f0q0 i)])) (b0 : (m0 : Int) < 9223372036854775808) (r0q0 : ∀ i, R64 (f0q0 i)) (h1 : SlcOk W a1 m1 c1 1 (fun i => [.bool (f1q0 i)])) (b1 : (m1 : Int) < 9223372036854775808) (r2 : R64 n2) (x2 : Int) (g2x : R64 x2) (p10 : (0 ≤ x2 ∧ x2 ≤ 30)) : NdGood Tryz.prog Tryz.f4 8 Tryz.H0 W Zw.p0 Zw.d24 [(.slice a0 m0 c0), (.slice a1 m1 c1), (.int .i64 x2)] :=
  ((Zw.s16 h0 b0 r0q0 h1 b1 r2 (30 - x2).toNat).2) x2 g2x p10 (by omega)
theorem Zw.s8 {W : World} {a0 : Option Addr} {m0 c0 : Nat} {f0q0 : Nat → Int} {a1 : Option Addr} {m1 c1 : Nat} {f1q0 : Nat → Bool} {n2 : Int} (h0 : SlcOk W a0 m0 c0 1 (fun i => [.int .i64 (f0q0 i)])) (b0 : (m0 : Int) < 9223372036854775808) (r0q0 : ∀ i, R64 (f0q0 i)) (h1 : SlcOk W a1 m1 c1 1 (fun i => [.bool (f1q0 i)])) (b1 : (m1 : Int) < 9223372036854775808) (r2 : R64 n2) : ∀ k : Nat, (∀ (x2 : Int) (g2x : R64 x2) (p10 : (0 ≤ x2 ∧ x2 ≤ 30)), (30 - x2) ≤ k → NdGood Tryz.prog Tryz.f4 8 Tryz.H0 W Zw.p0 Zw.d8 [(.slice a0 m0 c0), (.slice a1 m1 c1), (.int .i64 x2)]) := by
  intro k
  induction k with
  | zero =>
    intro x2 g2x p10 hk
    have ⟨gl2, gh2⟩ := g2x
    have ⟨rl2, rh2⟩ := r2
    have ⟨p10l, p10h⟩ := p10
    by_cases q1 : x2 < (m0 : Int)
    ·
      by_cases q2 : x2 < (m1 : Int)
      ·
        by_cases q3 : x2 < (30 : Int)
        ·
          have l4 : (x2).toNat < m0 := by omega
          obtain ⟨p4, v4⟩ := h0.elem l4
          have w4q0 := r0q0 (x2).toNat
          have l5 : (x2).toNat < m1 := by omega
          obtain ⟨p5, v5⟩ := h1.elem l5
          cases z6 : f1q0 (x2).toNat with
          | true =>
            obtain ⟨d7, e7, g7, o7⟩ := ex_add x2 (1 : Int)
            exfalso; omega
          | false =>
            obtain ⟨d8, e8, g8, o8⟩ := ex_add x2 (1 : Int)
            exact Zw.nx Zw.t194 [(.int .i64 (f0q0 (x2).toNat)), (.int .i64 (m0 : Int)), (.int .i64 (m1 : Int)), (.int .i64 d8)] [p4, p5] [(.slice a0 m0 c0), (.slice a1 m1 c1), (.int .i64 (f0q0 (x2).toNat)), (.int .i64 d8)] (Zw.k0 _) ⟨hold_len (.atom _ _ rfl) (.atom _ _ rfl), hold_bool (.atom _ _ rfl) (.atom _ _ rfl) (op_lss_t q1), hold_len (.atom _ _ rfl) (.atom _ _ rfl), hold_bool (.atom _ _ rfl) (.atom _ _ rfl) (op_lss_t q2), hold_bool (.atom _ _ rfl) (.int _ _) (op_lss_t q3), hold_idx v4 l4 (.atom _ _ rfl) (.atom _ _ rfl) (by omega) rfl, hold_idx v5 l5 (.atom _ _ rfl) (.atom _ _ rfl) (by omega) rfl, hold_op (.atom _ _ rfl) (.int _ _) o8 (.atom _ _ rfl), trivial⟩ Zw.i194 rfl rfl (rowsHold_cons (Elem.row v4 (VL.cons (.atom _ _ rfl) VL.nil)) (rowsHold_cons (Elem.row v5 (VL.cons (vb z6) VL.nil)) rowsHold_nil)) Zw.r194 rfl rfl (Zw.n16 h0 b0 r0q0 h1 b1 r2 (f0q0 (x2).toNat) d8 (by first | assumption | (constructor <;> omega) | trivial) (by first | assumption | (constructor <;> omega) | trivial) (by constructor <;> omega))
        ·
          exact Zw.fx Zw.t195 [(.int .i64 (m0 : Int)), (.int .i64 (m1 : Int))] [] (Zw.k0 _) ⟨hold_len (.atom _ _ rfl) (.atom _ _ rfl), hold_bool (.atom _ _ rfl) (.atom _ _ rfl) (op_lss_t q1), hold_len (.atom _ _ rfl) (.atom _ _ rfl), hold_bool (.atom _ _ rfl) (.atom _ _ rfl) (op_lss_t q2), hold_bool (.atom _ _ rfl) (.int _ _) (op_lss_f (Int.not_lt.1 q3)), trivial⟩ Zw.i195 rfl rfl rowsHold_nil Zw.r195
      ·
        exact Zw.fx Zw.t196 [(.int .i64 (m0 : Int)), (.int .i64 (m1 : Int))] [] (Zw.k0 _) ⟨hold_len (.atom _ _ rfl) (.atom _ _ rfl), hold_bool (.atom _ _ rfl) (.atom _ _ rfl) (op_lss_t q1), hold_len (.atom _ _ rfl) (.atom _ _ rfl), hold_bool (.atom _ _ rfl) (.atom _ _ rfl) (op_lss_f (Int.not_lt.1 q2)), trivial⟩ Zw.i196 rfl rfl rowsHold_nil Zw.r196
    ·
      exact Zw.fx Zw.t197 [(.int .i64 (m0 : Int))] [] (Zw.k0 _) ⟨hold_len (.atom _ _ rfl) (.atom _ _ rfl), hold_bool (.atom _ _ rfl) (.atom _ _ rfl) (op_lss_f (Int.not_lt.1 q1)), trivial⟩ Zw.i197 rfl rfl rowsHold_nil Zw.r197
  | succ k ih =>
    have ih8 := ih
    intro x2 g2x p10 hk
    have ⟨gl2, gh2⟩ := g2x
    have ⟨rl2, rh2⟩ := r2
    have ⟨p10l, p10h⟩ := p10
    by_cases q1 : x2 < (m0 : Int)
    ·
      by_cases q2 : x2 < (m1 : Int)
      ·
        by_cases q3 : x2 < (30 : Int)
        ·
          have l4 : (x2).toNat < m0 := by omega
          obtain ⟨p4, v4⟩ := h0.elem l4
          have w4q0 := r0q0 (x2).toNat
          have l5 : (x2).toNat < m1 := by omega
          obtain ⟨p5, v5⟩ := h1.elem l5
          cases z6 : f1q0 (x2).toNat with
          | true =>
            obtain ⟨d7, e7, g7, o7⟩ := ex_add x2 (1 : Int)
            exact Zw.nx Zw.t193 [(.int .i64 (f0q0 (x2).toNat)), (.int .i64 (m0 : Int)), (.int .i64 (m1 : Int)), (.int .i64 d7)] [p4, p5] [(.slice a0 m0 c0), (.slice a1 m1 c1), (.int .i64 d7)] (Zw.k0 _) ⟨hold_len (.atom _ _ rfl) (.atom _ _ rfl), hold_bool (.atom _ _ rfl) (.atom _ _ rfl) (op_lss_t q1), hold_len (.atom _ _ rfl) (.atom _ _ rfl), hold_bool (.atom _ _ rfl) (.atom _ _ rfl) (op_lss_t q2), hold_bool (.atom _ _ rfl) (.int _ _) (op_lss_t q3), hold_idx v4 l4 (.atom _ _ rfl) (.atom _ _ rfl) (by omega) rfl, hold_idx v5 l5 (.atom _ _ rfl) (.atom _ _ rfl) (by omega) rfl, hold_op (.atom _ _ rfl) (.int _ _) o7 (.atom _ _ rfl), trivial⟩ Zw.i193 rfl rfl (rowsHold_cons (Elem.row v4 (VL.cons (.atom _ _ rfl) VL.nil)) (rowsHold_cons (Elem.row v5 (VL.cons (vb z6) VL.nil)) rowsHold_nil)) Zw.r193 rfl rfl (ih8 d7 (by first | assumption | (constructor <;> omega) | trivial) (by constructor <;> omega) (by omega))
          | false =>
            obtain ⟨d8, e8, g8, o8⟩ := ex_add x2 (1 : Int)
            exact Zw.nx Zw.t194 [(.int .i64 (f0q0 (x2).toNat)), (.int .i64 (m0 : Int)), (.int .i64 (m1 : Int)), (.int .i64 d8)] [p4, p5] [(.slice a0 m0 c0), (.slice a1 m1 c1), (.int .i64 (f0q0 (x2).toNat)), (.int .i64 d8)] (Zw.k0 _) ⟨hold_len (.atom _ _ rfl) (.atom _ _ rfl), hold_bool (.atom _ _ rfl) (.atom _ _ rfl) (op_lss_t q1), hold_len (.atom _ _ rfl) (.atom _ _ rfl), hold_bool (.atom _ _ rfl) (.atom _ _ rfl) (op_lss_t q2), hold_bool (.atom _ _ rfl) (.int _ _) (op_lss_t q3), hold_idx v4 l4 (.atom _ _ rfl) (.atom _ _ rfl) (by omega) rfl, hold_idx v5 l5 (.atom _ _ rfl) (.atom _ _ rfl) (by omega) rfl, hold_op (.atom _ _ rfl) (.int _ _) o8 (.atom _ _ rfl), trivial⟩ Zw.i194 rfl rfl (rowsHold_cons (Elem.row v4 (VL.cons (.atom _ _ rfl) VL.nil)) (rowsHold_cons (Elem.row v5 (VL.cons (vb z6) VL.nil)) rowsHold_nil)) Zw.r194 rfl rfl (Zw.n16 h0 b0 r0q0 h1 b1 r2 (f0q0 (x2).toNat) d8 (by first | assumption | (constructor <;> omega) | trivial) (by first | assumption | (constructor <;> omega) | trivial) (by constructor <;> omega))
        ·
          exact Zw.fx Zw.t195 [(.int .i64 (m0 : Int)), (.int .i64 (m1 : Int))] [] (Zw.k0 _) ⟨hold_len (.atom _ _ rfl) (.atom _ _ rfl), hold_bool (.atom _ _ rfl) (.atom _ _ rfl) (op_lss_t q1), hold_len (.atom _ _ rfl) (.atom _ _ rfl), hold_bool (.atom _ _ rfl) (.atom _ _ rfl) (op_lss_t q2), hold_bool (.atom _ _ rfl) (.int _ _) (op_lss_f (Int.not_lt.1 q3)), trivial⟩ Zw.i195 rfl rfl rowsHold_nil Zw.r195
      ·
        exact Zw.fx Zw.t196 [(.int .i64 (m0 : Int)), (.int .i64 (m1 : Int))] [] (Zw.k0 _) ⟨hold_len (.atom _ _ rfl) (.atom _ _ rfl), hold_bool (.atom _ _ rfl) (.atom _ _ rfl) (op_lss_t q1), hold_len (.atom _ _ rfl) (.atom _ _ rfl), hold_bool (.atom _ _ rfl) (.atom _ _ rfl) (op_lss_f (Int.not_lt.1 q2)), trivial⟩ Zw.i196 rfl rfl rowsHold_nil Zw.r196
    ·
      exact Zw.fx Zw.t197 [(.int .i64 (m0 : Int))] [] (Zw.k0 _) ⟨hold_len (.atom _ _ rfl) (.atom _ _ rfl), hold_bool (.atom _ _ rfl) (.atom _ _ rfl) (op_lss_f (Int.not_lt.1 q1)), trivial⟩ Zw.i197 rfl rfl rowsHold_nil Zw.r197
theorem Zw.n8 {W : World} {a0 : Option Addr} {m0 c0 : Nat} {f0q0 : Nat → Int} {a1 : Option Addr} {m1 c1 : Nat} {f1q0 : Nat → Bool} {n2 : Int} (h0 : SlcOk W a0 m0 c0 1 (fun i => [.int .i64 (f0q0 i)])) (b0 : (m0 : Int) < 9223372036854775808) (r0q0 : ∀ i, R64 (f0q0 i)) (h1 : SlcOk W a1 m1 c1 1 (fun i => [.bool (f1q0 i)])) (b1 : (m1 : Int) < 9223372036854775808) (r2 : R64 n2) (x2 : Int) (g2x : R64 x2) (p10 : (0 ≤ x2 ∧ x2 ≤ 30)) : NdGood Tryz.prog Tryz.f4 8 Tryz.H0 W Zw.p0 Zw.d8 [(.slice a0 m0 c0), (.slice a1 m1 c1), (.int .i64 x2)] :=
  (Zw.s8 h0 b0 r0q0 h1 b1 r2 (30 - x2).toNat) x2 g2x p10 (by omega)
theorem Zw.n0 {W : World} {a0 : Option Addr} {m0 c0 : Nat} {f0q0 : Nat → Int} {a1 : Option Addr} {m1 c1 : Nat} {f1q0 : Nat → Bool} {n2 : Int} (h0 : SlcOk W a0 m0 c0 1 (fun i => [.int .i64 (f0q0 i)])) (b0 : (m0 : Int) < 9223372036854775808) (r0q0 : ∀ i, R64 (f0q0 i)) (h1 : SlcOk W a1 m1 c1 1 (fun i => [.bool (f1q0 i)])) (b1 : (m1 : Int) < 9223372036854775808) (r2 : R64 n2) : NdGood Tryz.prog Tryz.f4 8 Tryz.H0 W Zw.pS Zw.d0 [(.slice a0 m0 c0), (.slice a1 m1 c1), (.int .i64 n2)] := by
  have ⟨rl2, rh2⟩ := r2
  obtain ⟨d1, ⟨y1, e1, z1, u1, w1⟩, g1, o1⟩ := ex_rem n2 (8 : Int) (by omega) (by omega)
  obtain ⟨d2, e2, g2, o2⟩ := ex_add d1 (8 : Int)
  obtain ⟨d3, ⟨y3, e3, z3, u3, w3⟩, g3, o3⟩ := ex_rem d2 (8 : Int) (by omega) (by omega)
  rcases (show d3 = 0 ∨ d3 = 1 ∨ d3 = 2 ∨ d3 = 3 ∨ d3 = 4 ∨ d3 = 5 ∨ d3 = 6 ∨ d3 = 7 by omega) with k3 | k3 | k3 | k3 | k3 | k3 | k3 | k3
  ·
    exact Zw.nx Zw.t0 [(.int .i64 d1), (.int .i64 d2)] [] [(.slice a0 m0 c0), (.slice a1 m1 c1), (.int .i64 0)] (Zw.kS _) ⟨hold_op (.atom _ _ rfl) (.int _ _) (o1 .i64) (.atom _ _ rfl), hold_op (.atom _ _ rfl) (.int _ _) o2 (.atom _ _ rfl), hold_op (.atom _ _ rfl) (.int _ _) (by have := (o3 .i64); rw [k3] at this; exact this) (.int _ _), trivial⟩ Zw.i0 rfl rfl rowsHold_nil Zw.r0 rfl rfl (Zw.n1 h0 b0 r0q0 h1 b1 r2 0 (by first | assumption | (constructor <;> omega) | trivial) (by constructor <;> omega))
  ·
    exact Zw.nx Zw.t1 [(.int .i64 d1), (.int .i64 d2)] [] [(.slice a0 m0 c0), (.slice a1 m1 c1), (.int .i64 0)] (Zw.kS _) ⟨hold_op (.atom _ _ rfl) (.int _ _) (o1 .i64) (.atom _ _ rfl), hold_op (.atom _ _ rfl) (.int _ _) o2 (.atom _ _ rfl), hold_op (.atom _ _ rfl) (.int _ _) (by have := (o3 .i64); rw [k3] at this; exact this) (.int _ _), trivial⟩ Zw.i1 rfl rfl rowsHold_nil Zw.r1 rfl rfl (Zw.n2 h0 b0 r0q0 h1 b1 r2 0 (by first | assumption | (constructor <;> omega) | trivial) (by constructor <;> omega))
  ·
    exact Zw.nx Zw.t2 [(.int .i64 d1), (.int .i64 d2)] [] [(.slice a0 m0 c0), (.slice a1 m1 c1), (.int .i64 0)] (Zw.kS _) ⟨hold_op (.atom _ _ rfl) (.int _ _) (o1 .i64) (.atom _ _ rfl), hold_op (.atom _ _ rfl) (.int _ _) o2 (.atom _ _ rfl), hold_op (.atom _ _ rfl) (.int _ _) (by have := (o3 .i64); rw [k3] at this; exact this) (.int _ _), trivial⟩ Zw.i2 rfl rfl rowsHold_nil Zw.r2 rfl rfl (Zw.n3 h0 b0 r0q0 h1 b1 r2 0 (by first | assumption | (constructor <;> omega) | trivial) (by constructor <;> omega))
  ·
    exact Zw.nx Zw.t3 [(.int .i64 d1), (.int .i64 d2)] [] [(.slice a0 m0 c0), (.slice a1 m1 c1), (.int .i64 0)] (Zw.kS _) ⟨hold_op (.atom _ _ rfl) (.int _ _) (o1 .i64) (.atom _ _ rfl), hold_op (.atom _ _ rfl) (.int _ _) o2 (.atom _ _ rfl), hold_op (.atom _ _ rfl) (.int _ _) (by have := (o3 .i64); rw [k3] at this; exact this) (.int _ _), trivial⟩ Zw.i3 rfl rfl rowsHold_nil Zw.r3 rfl rfl (Zw.n4 h0 b0 r0q0 h1 b1 r2 0 (by first | assumption | (constructor <;> omega) | trivial) (by constructor <;> omega))
  ·
    exact Zw.nx Zw.t4 [(.int .i64 d1), (.int .i64 d2)] [] [(.slice a0 m0 c0), (.slice a1 m1 c1), (.int .i64 0)] (Zw.kS _) ⟨hold_op (.atom _ _ rfl) (.int _ _) (o1 .i64) (.atom _ _ rfl), hold_op (.atom _ _ rfl) (.int _ _) o2 (.atom _ _ rfl), hold_op (.atom _ _ rfl) (.int _ _) (by have := (o3 .i64); rw [k3] at this; exact this) (.int _ _), trivial⟩ Zw.i4 rfl rfl rowsHold_nil Zw.r4 rfl rfl (Zw.n5 h0 b0 r0q0 h1 b1 r2 0 (by first | assumption | (constructor <;> omega) | trivial) (by constructor <;> omega))
  ·
    exact Zw.nx Zw.t5 [(.int .i64 d1), (.int .i64 d2)] [] [(.slice a0 m0 c0), (.slice a1 m1 c1), (.int .i64 0)] (Zw.kS _) ⟨hold_op (.atom _ _ rfl) (.int _ _) (o1 .i64) (.atom _ _ rfl), hold_op (.atom _ _ rfl) (.int _ _) o2 (.atom _ _ rfl), hold_op (.atom _ _ rfl) (.int _ _) (by have := (o3 .i64); rw [k3] at this; exact this) (.int _ _), trivial⟩ Zw.i5 rfl rfl rowsHold_nil Zw.r5 rfl rfl (Zw.n6 h0 b0 r0q0 h1 b1 r2 0 (by first | assumption | (constructor <;> omega) | trivial) (by constructor <;> omega))
  ·
    exact Zw.nx Zw.t6 [(.int .i64 d1), (.int .i64 d2)] [] [(.slice a0 m0 c0), (.slice a1 m1 c1), (.int .i64 0)] (Zw.kS _) ⟨hold_op (.atom _ _ rfl) (.int _ _) (o1 .i64) (.atom _ _ rfl), hold_op (.atom _ _ rfl) (.int _ _) o2 (.atom _ _ rfl), hold_op (.atom _ _ rfl) (.int _ _) (by have := (o3 .i64); rw [k3] at this; exact this) (.int _ _), trivial⟩ Zw.i6 rfl rfl rowsHold_nil Zw.r6 rfl rfl (Zw.n7 h0 b0 r0q0 h1 b1 r2 0 (by first | assumption | (constructor <;> omega) | trivial) (by constructor <;> omega))
  ·
    exact Zw.nx Zw.t7 [(.int .i64 d1), (.int .i64 d2)] [] [(.slice a0 m0 c0), (.slice a1 m1 c1), (.int .i64 0)] (Zw.kS _) ⟨hold_op (.atom _ _ rfl) (.int _ _) (o1 .i64) (.atom _ _ rfl), hold_op (.atom _ _ rfl) (.int _ _) o2 (.atom _ _ rfl), hold_op (.atom _ _ rfl) (.int _ _) (by have := (o3 .i64); rw [k3] at this; exact this) (.int _ _), trivial⟩ Zw.i7 rfl rfl rowsHold_nil Zw.r7 rfl rfl (Zw.n8 h0 b0 r0q0 h1 b1 r2 0 (by first | assumption | (constructor <;> omega) | trivial) (by constructor <;> omega))
end Go.Proofs
