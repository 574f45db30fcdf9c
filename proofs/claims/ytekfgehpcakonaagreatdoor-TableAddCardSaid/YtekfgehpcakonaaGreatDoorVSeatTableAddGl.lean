/- The law, node by node; hence from its start, for every input. No conditions. -/
import Derived.Test.YtekfgehpcakonaaGreatDoorVSeatTableAddR1
import Derived.Test.YtekfgehpcakonaaGreatDoorVSeatTableAddR2
set_option linter.all false
namespace Go.Proofs
open Go Go.Vsx Go.RowKit
set_option maxRecDepth 1000000
set_option maxHeartbeats 4000000
set_option linter.unusedVariables false
theorem Zw.r64a {x : Int} (h : R64 x) : -9223372036854775808 ≤ x ∧ x < 9223372036854775808 := h
theorem Zw.nx {W : World} {pt pt' : Pt} {d d' : Nd} {vals : List Value} {roc : List (List Value)} {j hk : Nat} {rl : List (Nat × Nat)} {A : List Value} (t : List SE) (ex : List Value) (rows : List Pl) (vals' : List Value)
    (hok : ∀ sy, okPt (Tryz.Es Tryz.m4 sy) 8 pt = true) (hold : AllHold (nodeMu 8 rows (vals ++ ex)) t)
    (hid : d.sub 8 roc (idl 8 d.objs) (idA hk) (d.st 8 []) = true) (hlen : hk = vals.length) (hone : (vals ++ ex).all (·.oneCell') = true) (hrow : RowsHold W (nodeMu 8 rows (vals ++ ex)) rows roc)
    (hrun : leafNext (fK (Tryz.Es Tryz.m4 (syOf t)) 100000 100000 pt (d.st 8 roc) j) 8 d' rl A = some pt') (hA : evL (nodeMu 8 rows (vals ++ ex)) A = some vals') (hone' : vals'.all (·.oneCell') = true)
    (h : NdGood Tryz.prog Tryz.f3 8 (firstHeap 8 Tryz.gsL) W pt' d' vals') : NdGood Tryz.prog Tryz.f3 8 (firstHeap 8 Tryz.gsL) W pt d vals :=
  NdGood.next (E := Tryz.Es Tryz.m4 (syOf t)) (extras := ex) (rows := rows) (vals' := vals') (by omega) (Tryz.right Tryz.m4 (syOf t) _ W Tryz.mOk4 (symOk_of rfl hold)) (hok _) hid hlen hone hrow hrun hA hone' h
theorem Zw.fx {W : World} {pt : Pt} {d : Nd} {vals : List Value} {roc : List (List Value)} {j hk : Nat} (t : List SE) (ex : List Value) (rows : List Pl)
    (hok : ∀ sy, okPt (Tryz.Es Tryz.m4 sy) 8 pt = true) (hold : AllHold (nodeMu 8 rows (vals ++ ex)) t)
    (hid : d.sub 8 roc (idl 8 d.objs) (idA hk) (d.st 8 []) = true) (hlen : hk = vals.length) (hone : (vals ++ ex).all (·.oneCell') = true) (hrow : RowsHold W (nodeMu 8 rows (vals ++ ex)) rows roc)
    (hrun : leafFin (Tryz.Es Tryz.m4 (syOf t)) Tryz.f3 (fK (Tryz.Es Tryz.m4 (syOf t)) 100000 100000 pt (d.st 8 roc) j) = true) : NdGood Tryz.prog Tryz.f3 8 (firstHeap 8 Tryz.gsL) W pt d vals :=
  NdGood.fin (E := Tryz.Es Tryz.m4 (syOf t)) (extras := ex) (rows := rows) (by omega) (Tryz.right Tryz.m4 (syOf t) _ W Tryz.mOk4 (symOk_of rfl hold)) (hok _) hid hlen hone hrow hrun

theorem Zw.s9 {W : World} {a0 : Option Addr} {m0 c0 : Nat} {f0q0 : Nat → Int} {n1 : Int} (h0 : SlcOk W a0 m0 c0 1 (fun i => [.int .i64 (f0q0 i)])) (b0 : (m0 : Int) < 9223372036854775808) (r0q0 : ∀ i, R64 (f0q0 i)) (r1 : R64 n1) : ∀ k : Nat, (∀ (x1 : Int) (x2 : Int) (g1x : R64 x1) (g2x : R64 x2) (p8 : (0 ≤ x2 ∧ x2 ≤ 30)), (30 - x2) ≤ k → NdGood Tryz.prog Tryz.f3 8 (firstHeap 8 Tryz.gsL) W Zw.p0 Zw.d9 [(.slice a0 m0 c0), (.int .i64 x1), (.int .i64 x2)]) := by
  intro k
  induction k with
  | zero =>
    intro x1 x2 g1x g2x p8 hk
    have ⟨gl1, gh1⟩ := g1x
    have ⟨gl2, gh2⟩ := g2x
    have ⟨rl1, rh1⟩ := r1
    have ⟨p8l, p8h⟩ := p8
    by_cases q1 : x2 < (m0 : Int)
    ·
      by_cases q2 : x2 < (30 : Int)
      ·
        have l3 : (x2).toNat < m0 := by omega
        obtain ⟨p3, v3⟩ := h0.elem l3
        have w3q0 := r0q0 (x2).toNat
        obtain ⟨d4, e4, g4, o4⟩ := ex_add x1 (f0q0 (x2).toNat)
        obtain ⟨d5, e5, g5, o5⟩ := ex_add x2 (1 : Int)
        exfalso; omega
      ·
        exact Zw.fx Zw.t36 [(.int .i64 (m0 : Int))] [] (Zw.k0 _) ⟨hold_len (.atom _ _ rfl) (.atom _ _ rfl), hold_bool (.atom _ _ rfl) (.atom _ _ rfl) (op_lss_t q1), hold_bool (.atom _ _ rfl) (.int _ _) (op_lss_f (Int.not_lt.1 q2)), trivial⟩ Zw.i36 rfl rfl rowsHold_nil Zw.r36
    ·
      exact Zw.fx Zw.t37 [(.int .i64 (m0 : Int))] [] (Zw.k0 _) ⟨hold_len (.atom _ _ rfl) (.atom _ _ rfl), hold_bool (.atom _ _ rfl) (.atom _ _ rfl) (op_lss_f (Int.not_lt.1 q1)), trivial⟩ Zw.i37 rfl rfl rowsHold_nil Zw.r37
  | succ k ih =>
    have ih9 := ih
    intro x1 x2 g1x g2x p8 hk
    have ⟨gl1, gh1⟩ := g1x
    have ⟨gl2, gh2⟩ := g2x
    have ⟨rl1, rh1⟩ := r1
    have ⟨p8l, p8h⟩ := p8
    by_cases q1 : x2 < (m0 : Int)
    ·
      by_cases q2 : x2 < (30 : Int)
      ·
        have l3 : (x2).toNat < m0 := by omega
        obtain ⟨p3, v3⟩ := h0.elem l3
        have w3q0 := r0q0 (x2).toNat
        obtain ⟨d4, e4, g4, o4⟩ := ex_add x1 (f0q0 (x2).toNat)
        obtain ⟨d5, e5, g5, o5⟩ := ex_add x2 (1 : Int)
        exact Zw.nx Zw.t35 [(.int .i64 (f0q0 (x2).toNat)), (.int .i64 (m0 : Int)), (.int .i64 d4), (.int .i64 d5)] [p3] [(.slice a0 m0 c0), (.int .i64 d4), (.int .i64 d5)] (Zw.k0 _) ⟨hold_len (.atom _ _ rfl) (.atom _ _ rfl), hold_bool (.atom _ _ rfl) (.atom _ _ rfl) (op_lss_t q1), hold_bool (.atom _ _ rfl) (.int _ _) (op_lss_t q2), hold_idx v3 l3 (.atom _ _ rfl) (.atom _ _ rfl) (by omega) rfl, hold_op (.atom _ _ rfl) (.atom _ _ rfl) o4 (.atom _ _ rfl), hold_bool (.atom _ _ rfl) (.atom _ _ rfl) (op_neq_f rfl), hold_op (.atom _ _ rfl) (.int _ _) o5 (.atom _ _ rfl), trivial⟩ Zw.i35 rfl rfl (rowsHold_cons (Elem.row v3 (VL.cons (.atom _ _ rfl) VL.nil)) rowsHold_nil) Zw.r35 rfl rfl (ih9 d4 d5 (by first | assumption | (constructor <;> omega) | trivial) (by first | assumption | (constructor <;> omega) | trivial) (by constructor <;> omega) (by omega))
      ·
        exact Zw.fx Zw.t36 [(.int .i64 (m0 : Int))] [] (Zw.k0 _) ⟨hold_len (.atom _ _ rfl) (.atom _ _ rfl), hold_bool (.atom _ _ rfl) (.atom _ _ rfl) (op_lss_t q1), hold_bool (.atom _ _ rfl) (.int _ _) (op_lss_f (Int.not_lt.1 q2)), trivial⟩ Zw.i36 rfl rfl rowsHold_nil Zw.r36
    ·
      exact Zw.fx Zw.t37 [(.int .i64 (m0 : Int))] [] (Zw.k0 _) ⟨hold_len (.atom _ _ rfl) (.atom _ _ rfl), hold_bool (.atom _ _ rfl) (.atom _ _ rfl) (op_lss_f (Int.not_lt.1 q1)), trivial⟩ Zw.i37 rfl rfl rowsHold_nil Zw.r37
theorem Zw.n9 {W : World} {a0 : Option Addr} {m0 c0 : Nat} {f0q0 : Nat → Int} {n1 : Int} (h0 : SlcOk W a0 m0 c0 1 (fun i => [.int .i64 (f0q0 i)])) (b0 : (m0 : Int) < 9223372036854775808) (r0q0 : ∀ i, R64 (f0q0 i)) (r1 : R64 n1) (x1 : Int) (x2 : Int) (g1x : R64 x1) (g2x : R64 x2) (p8 : (0 ≤ x2 ∧ x2 ≤ 30)) : NdGood Tryz.prog Tryz.f3 8 (firstHeap 8 Tryz.gsL) W Zw.p0 Zw.d9 [(.slice a0 m0 c0), (.int .i64 x1), (.int .i64 x2)] :=
  (Zw.s9 h0 b0 r0q0 r1 (30 - x2).toNat) x1 x2 g1x g2x p8 (by omega)
theorem Zw.n1 {W : World} {a0 : Option Addr} {m0 c0 : Nat} {f0q0 : Nat → Int} {n1 : Int} (h0 : SlcOk W a0 m0 c0 1 (fun i => [.int .i64 (f0q0 i)])) (b0 : (m0 : Int) < 9223372036854775808) (r0q0 : ∀ i, R64 (f0q0 i)) (r1 : R64 n1) (x1 : Int) (g1x : R64 x1) (p8 : (0 ≤ x1 ∧ x1 ≤ 30)) : NdGood Tryz.prog Tryz.f3 8 (firstHeap 8 Tryz.gsL) W Zw.p0 Zw.d1 [(.slice a0 m0 c0), (.int .i64 x1)] := by
  have ⟨gl1, gh1⟩ := g1x
  have ⟨rl1, rh1⟩ := r1
  have ⟨p8l, p8h⟩ := p8
  by_cases q1 : x1 < (m0 : Int)
  ·
    by_cases q2 : x1 < (30 : Int)
    ·
      have l3 : (x1).toNat < m0 := by omega
      obtain ⟨p3, v3⟩ := h0.elem l3
      have w3q0 := r0q0 (x1).toNat
      obtain ⟨d4, e4, g4, o4⟩ := ex_add (0 : Int) (f0q0 (x1).toNat)
      obtain ⟨d5, e5, g5, o5⟩ := ex_add x1 (1 : Int)
      exact Zw.nx Zw.t8 [(.int .i64 (f0q0 (x1).toNat)), (.int .i64 (m0 : Int)), (.int .i64 d4), (.int .i64 d5)] [p3] [(.slice a0 m0 c0), (.int .i64 d4), (.int .i64 d5)] (Zw.k0 _) ⟨hold_len (.atom _ _ rfl) (.atom _ _ rfl), hold_bool (.atom _ _ rfl) (.atom _ _ rfl) (op_lss_t q1), hold_bool (.atom _ _ rfl) (.int _ _) (op_lss_t q2), hold_idx v3 l3 (.atom _ _ rfl) (.atom _ _ rfl) (by omega) rfl, hold_op (.int _ _) (.atom _ _ rfl) o4 (.atom _ _ rfl), hold_bool (.atom _ _ rfl) (.atom _ _ rfl) (op_neq_f rfl), hold_op (.atom _ _ rfl) (.int _ _) o5 (.atom _ _ rfl), trivial⟩ Zw.i8 rfl rfl (rowsHold_cons (Elem.row v3 (VL.cons (.atom _ _ rfl) VL.nil)) rowsHold_nil) Zw.r8 rfl rfl (Zw.n9 h0 b0 r0q0 r1 d4 d5 (by first | assumption | (constructor <;> omega) | trivial) (by first | assumption | (constructor <;> omega) | trivial) (by constructor <;> omega))
    ·
      exact Zw.fx Zw.t9 [(.int .i64 (m0 : Int))] [] (Zw.k0 _) ⟨hold_len (.atom _ _ rfl) (.atom _ _ rfl), hold_bool (.atom _ _ rfl) (.atom _ _ rfl) (op_lss_t q1), hold_bool (.atom _ _ rfl) (.int _ _) (op_lss_f (Int.not_lt.1 q2)), trivial⟩ Zw.i9 rfl rfl rowsHold_nil Zw.r9
  ·
    exact Zw.fx Zw.t10 [(.int .i64 (m0 : Int))] [] (Zw.k0 _) ⟨hold_len (.atom _ _ rfl) (.atom _ _ rfl), hold_bool (.atom _ _ rfl) (.atom _ _ rfl) (op_lss_f (Int.not_lt.1 q1)), trivial⟩ Zw.i10 rfl rfl rowsHold_nil Zw.r10
theorem Zw.s10 {W : World} {a0 : Option Addr} {m0 c0 : Nat} {f0q0 : Nat → Int} {n1 : Int} (h0 : SlcOk W a0 m0 c0 1 (fun i => [.int .i64 (f0q0 i)])) (b0 : (m0 : Int) < 9223372036854775808) (r0q0 : ∀ i, R64 (f0q0 i)) (r1 : R64 n1) : ∀ k : Nat, (∀ (x1 : Int) (x2 : Int) (g1x : R64 x1) (g2x : R64 x2) (p8 : (0 ≤ x2 ∧ x2 ≤ 30)), (30 - x2) ≤ k → NdGood Tryz.prog Tryz.f3 8 (firstHeap 8 Tryz.gsL) W Zw.p0 Zw.d10 [(.slice a0 m0 c0), (.int .i64 x1), (.int .i64 x2)]) := by
  intro k
  induction k with
  | zero =>
    intro x1 x2 g1x g2x p8 hk
    have ⟨gl1, gh1⟩ := g1x
    have ⟨gl2, gh2⟩ := g2x
    have ⟨rl1, rh1⟩ := r1
    have ⟨p8l, p8h⟩ := p8
    by_cases q1 : x2 < (m0 : Int)
    ·
      by_cases q2 : x2 < (30 : Int)
      ·
        have l3 : (x2).toNat < m0 := by omega
        obtain ⟨p3, v3⟩ := h0.elem l3
        have w3q0 := r0q0 (x2).toNat
        obtain ⟨d4, e4, g4, o4⟩ := ex_add x1 (f0q0 (x2).toNat)
        obtain ⟨d5, e5, g5, o5⟩ := ex_add x2 (1 : Int)
        exfalso; omega
      ·
        exact Zw.fx Zw.t42 [(.int .i64 (m0 : Int))] [] (Zw.k0 _) ⟨hold_len (.atom _ _ rfl) (.atom _ _ rfl), hold_bool (.atom _ _ rfl) (.atom _ _ rfl) (op_lss_t q1), hold_bool (.atom _ _ rfl) (.int _ _) (op_lss_f (Int.not_lt.1 q2)), trivial⟩ Zw.i42 rfl rfl rowsHold_nil Zw.r42
    ·
      exact Zw.fx Zw.t43 [(.int .i64 (m0 : Int))] [] (Zw.k0 _) ⟨hold_len (.atom _ _ rfl) (.atom _ _ rfl), hold_bool (.atom _ _ rfl) (.atom _ _ rfl) (op_lss_f (Int.not_lt.1 q1)), trivial⟩ Zw.i43 rfl rfl rowsHold_nil Zw.r43
  | succ k ih =>
    have ih10 := ih
    intro x1 x2 g1x g2x p8 hk
    have ⟨gl1, gh1⟩ := g1x
    have ⟨gl2, gh2⟩ := g2x
    have ⟨rl1, rh1⟩ := r1
    have ⟨p8l, p8h⟩ := p8
    by_cases q1 : x2 < (m0 : Int)
    ·
      by_cases q2 : x2 < (30 : Int)
      ·
        have l3 : (x2).toNat < m0 := by omega
        obtain ⟨p3, v3⟩ := h0.elem l3
        have w3q0 := r0q0 (x2).toNat
        obtain ⟨d4, e4, g4, o4⟩ := ex_add x1 (f0q0 (x2).toNat)
        obtain ⟨d5, e5, g5, o5⟩ := ex_add x2 (1 : Int)
        exact Zw.nx Zw.t41 [(.int .i64 (f0q0 (x2).toNat)), (.int .i64 (m0 : Int)), (.int .i64 d4), (.int .i64 d5)] [p3] [(.slice a0 m0 c0), (.int .i64 d4), (.int .i64 d5)] (Zw.k0 _) ⟨hold_len (.atom _ _ rfl) (.atom _ _ rfl), hold_bool (.atom _ _ rfl) (.atom _ _ rfl) (op_lss_t q1), hold_bool (.atom _ _ rfl) (.int _ _) (op_lss_t q2), hold_idx v3 l3 (.atom _ _ rfl) (.atom _ _ rfl) (by omega) rfl, hold_op (.atom _ _ rfl) (.atom _ _ rfl) o4 (.atom _ _ rfl), hold_bool (.atom _ _ rfl) (.atom _ _ rfl) (op_neq_f rfl), hold_op (.atom _ _ rfl) (.int _ _) o5 (.atom _ _ rfl), trivial⟩ Zw.i41 rfl rfl (rowsHold_cons (Elem.row v3 (VL.cons (.atom _ _ rfl) VL.nil)) rowsHold_nil) Zw.r41 rfl rfl (ih10 d4 d5 (by first | assumption | (constructor <;> omega) | trivial) (by first | assumption | (constructor <;> omega) | trivial) (by constructor <;> omega) (by omega))
      ·
        exact Zw.fx Zw.t42 [(.int .i64 (m0 : Int))] [] (Zw.k0 _) ⟨hold_len (.atom _ _ rfl) (.atom _ _ rfl), hold_bool (.atom _ _ rfl) (.atom _ _ rfl) (op_lss_t q1), hold_bool (.atom _ _ rfl) (.int _ _) (op_lss_f (Int.not_lt.1 q2)), trivial⟩ Zw.i42 rfl rfl rowsHold_nil Zw.r42
    ·
      exact Zw.fx Zw.t43 [(.int .i64 (m0 : Int))] [] (Zw.k0 _) ⟨hold_len (.atom _ _ rfl) (.atom _ _ rfl), hold_bool (.atom _ _ rfl) (.atom _ _ rfl) (op_lss_f (Int.not_lt.1 q1)), trivial⟩ Zw.i43 rfl rfl rowsHold_nil Zw.r43
theorem Zw.n10 {W : World} {a0 : Option Addr} {m0 c0 : Nat} {f0q0 : Nat → Int} {n1 : Int} (h0 : SlcOk W a0 m0 c0 1 (fun i => [.int .i64 (f0q0 i)])) (b0 : (m0 : Int) < 9223372036854775808) (r0q0 : ∀ i, R64 (f0q0 i)) (r1 : R64 n1) (x1 : Int) (x2 : Int) (g1x : R64 x1) (g2x : R64 x2) (p8 : (0 ≤ x2 ∧ x2 ≤ 30)) : NdGood Tryz.prog Tryz.f3 8 (firstHeap 8 Tryz.gsL) W Zw.p0 Zw.d10 [(.slice a0 m0 c0), (.int .i64 x1), (.int .i64 x2)] :=
  (Zw.s10 h0 b0 r0q0 r1 (30 - x2).toNat) x1 x2 g1x g2x p8 (by omega)
theorem Zw.n2 {W : World} {a0 : Option Addr} {m0 c0 : Nat} {f0q0 : Nat → Int} {n1 : Int} (h0 : SlcOk W a0 m0 c0 1 (fun i => [.int .i64 (f0q0 i)])) (b0 : (m0 : Int) < 9223372036854775808) (r0q0 : ∀ i, R64 (f0q0 i)) (r1 : R64 n1) (x1 : Int) (g1x : R64 x1) (p8 : (0 ≤ x1 ∧ x1 ≤ 30)) : NdGood Tryz.prog Tryz.f3 8 (firstHeap 8 Tryz.gsL) W Zw.p0 Zw.d2 [(.slice a0 m0 c0), (.int .i64 x1)] := by
  have ⟨gl1, gh1⟩ := g1x
  have ⟨rl1, rh1⟩ := r1
  have ⟨p8l, p8h⟩ := p8
  by_cases q1 : x1 < (m0 : Int)
  ·
    by_cases q2 : x1 < (30 : Int)
    ·
      have l3 : (x1).toNat < m0 := by omega
      obtain ⟨p3, v3⟩ := h0.elem l3
      have w3q0 := r0q0 (x1).toNat
      obtain ⟨d4, e4, g4, o4⟩ := ex_add (0 : Int) (f0q0 (x1).toNat)
      obtain ⟨d5, e5, g5, o5⟩ := ex_add x1 (1 : Int)
      exact Zw.nx Zw.t11 [(.int .i64 (f0q0 (x1).toNat)), (.int .i64 (m0 : Int)), (.int .i64 d4), (.int .i64 d5)] [p3] [(.slice a0 m0 c0), (.int .i64 d4), (.int .i64 d5)] (Zw.k0 _) ⟨hold_len (.atom _ _ rfl) (.atom _ _ rfl), hold_bool (.atom _ _ rfl) (.atom _ _ rfl) (op_lss_t q1), hold_bool (.atom _ _ rfl) (.int _ _) (op_lss_t q2), hold_idx v3 l3 (.atom _ _ rfl) (.atom _ _ rfl) (by omega) rfl, hold_op (.int _ _) (.atom _ _ rfl) o4 (.atom _ _ rfl), hold_bool (.atom _ _ rfl) (.atom _ _ rfl) (op_neq_f rfl), hold_op (.atom _ _ rfl) (.int _ _) o5 (.atom _ _ rfl), trivial⟩ Zw.i11 rfl rfl (rowsHold_cons (Elem.row v3 (VL.cons (.atom _ _ rfl) VL.nil)) rowsHold_nil) Zw.r11 rfl rfl (Zw.n10 h0 b0 r0q0 r1 d4 d5 (by first | assumption | (constructor <;> omega) | trivial) (by first | assumption | (constructor <;> omega) | trivial) (by constructor <;> omega))
    ·
      exact Zw.fx Zw.t12 [(.int .i64 (m0 : Int))] [] (Zw.k0 _) ⟨hold_len (.atom _ _ rfl) (.atom _ _ rfl), hold_bool (.atom _ _ rfl) (.atom _ _ rfl) (op_lss_t q1), hold_bool (.atom _ _ rfl) (.int _ _) (op_lss_f (Int.not_lt.1 q2)), trivial⟩ Zw.i12 rfl rfl rowsHold_nil Zw.r12
  ·
    exact Zw.fx Zw.t13 [(.int .i64 (m0 : Int))] [] (Zw.k0 _) ⟨hold_len (.atom _ _ rfl) (.atom _ _ rfl), hold_bool (.atom _ _ rfl) (.atom _ _ rfl) (op_lss_f (Int.not_lt.1 q1)), trivial⟩ Zw.i13 rfl rfl rowsHold_nil Zw.r13
theorem Zw.s11 {W : World} {a0 : Option Addr} {m0 c0 : Nat} {f0q0 : Nat → Int} {n1 : Int} (h0 : SlcOk W a0 m0 c0 1 (fun i => [.int .i64 (f0q0 i)])) (b0 : (m0 : Int) < 9223372036854775808) (r0q0 : ∀ i, R64 (f0q0 i)) (r1 : R64 n1) : ∀ k : Nat, (∀ (x1 : Int) (x2 : Int) (g1x : R64 x1) (g2x : R64 x2) (p8 : (0 ≤ x2 ∧ x2 ≤ 30)), (30 - x2) ≤ k → NdGood Tryz.prog Tryz.f3 8 (firstHeap 8 Tryz.gsL) W Zw.p0 Zw.d11 [(.slice a0 m0 c0), (.int .i64 x1), (.int .i64 x2)]) := by
  intro k
  induction k with
  | zero =>
    intro x1 x2 g1x g2x p8 hk
    have ⟨gl1, gh1⟩ := g1x
    have ⟨gl2, gh2⟩ := g2x
    have ⟨rl1, rh1⟩ := r1
    have ⟨p8l, p8h⟩ := p8
    by_cases q1 : x2 < (m0 : Int)
    ·
      by_cases q2 : x2 < (30 : Int)
      ·
        have l3 : (x2).toNat < m0 := by omega
        obtain ⟨p3, v3⟩ := h0.elem l3
        have w3q0 := r0q0 (x2).toNat
        obtain ⟨d4, e4, g4, o4⟩ := ex_add x1 (f0q0 (x2).toNat)
        obtain ⟨d5, e5, g5, o5⟩ := ex_add x2 (1 : Int)
        exfalso; omega
      ·
        exact Zw.fx Zw.t48 [(.int .i64 (m0 : Int))] [] (Zw.k0 _) ⟨hold_len (.atom _ _ rfl) (.atom _ _ rfl), hold_bool (.atom _ _ rfl) (.atom _ _ rfl) (op_lss_t q1), hold_bool (.atom _ _ rfl) (.int _ _) (op_lss_f (Int.not_lt.1 q2)), trivial⟩ Zw.i48 rfl rfl rowsHold_nil Zw.r48
    ·
      exact Zw.fx Zw.t49 [(.int .i64 (m0 : Int))] [] (Zw.k0 _) ⟨hold_len (.atom _ _ rfl) (.atom _ _ rfl), hold_bool (.atom _ _ rfl) (.atom _ _ rfl) (op_lss_f (Int.not_lt.1 q1)), trivial⟩ Zw.i49 rfl rfl rowsHold_nil Zw.r49
  | succ k ih =>
    have ih11 := ih
    intro x1 x2 g1x g2x p8 hk
    have ⟨gl1, gh1⟩ := g1x
    have ⟨gl2, gh2⟩ := g2x
    have ⟨rl1, rh1⟩ := r1
    have ⟨p8l, p8h⟩ := p8
    by_cases q1 : x2 < (m0 : Int)
    ·
      by_cases q2 : x2 < (30 : Int)
      ·
        have l3 : (x2).toNat < m0 := by omega
        obtain ⟨p3, v3⟩ := h0.elem l3
        have w3q0 := r0q0 (x2).toNat
        obtain ⟨d4, e4, g4, o4⟩ := ex_add x1 (f0q0 (x2).toNat)
        obtain ⟨d5, e5, g5, o5⟩ := ex_add x2 (1 : Int)
        exact Zw.nx Zw.t47 [(.int .i64 (f0q0 (x2).toNat)), (.int .i64 (m0 : Int)), (.int .i64 d4), (.int .i64 d5)] [p3] [(.slice a0 m0 c0), (.int .i64 d4), (.int .i64 d5)] (Zw.k0 _) ⟨hold_len (.atom _ _ rfl) (.atom _ _ rfl), hold_bool (.atom _ _ rfl) (.atom _ _ rfl) (op_lss_t q1), hold_bool (.atom _ _ rfl) (.int _ _) (op_lss_t q2), hold_idx v3 l3 (.atom _ _ rfl) (.atom _ _ rfl) (by omega) rfl, hold_op (.atom _ _ rfl) (.atom _ _ rfl) o4 (.atom _ _ rfl), hold_bool (.atom _ _ rfl) (.atom _ _ rfl) (op_neq_f rfl), hold_op (.atom _ _ rfl) (.int _ _) o5 (.atom _ _ rfl), trivial⟩ Zw.i47 rfl rfl (rowsHold_cons (Elem.row v3 (VL.cons (.atom _ _ rfl) VL.nil)) rowsHold_nil) Zw.r47 rfl rfl (ih11 d4 d5 (by first | assumption | (constructor <;> omega) | trivial) (by first | assumption | (constructor <;> omega) | trivial) (by constructor <;> omega) (by omega))
      ·
        exact Zw.fx Zw.t48 [(.int .i64 (m0 : Int))] [] (Zw.k0 _) ⟨hold_len (.atom _ _ rfl) (.atom _ _ rfl), hold_bool (.atom _ _ rfl) (.atom _ _ rfl) (op_lss_t q1), hold_bool (.atom _ _ rfl) (.int _ _) (op_lss_f (Int.not_lt.1 q2)), trivial⟩ Zw.i48 rfl rfl rowsHold_nil Zw.r48
    ·
      exact Zw.fx Zw.t49 [(.int .i64 (m0 : Int))] [] (Zw.k0 _) ⟨hold_len (.atom _ _ rfl) (.atom _ _ rfl), hold_bool (.atom _ _ rfl) (.atom _ _ rfl) (op_lss_f (Int.not_lt.1 q1)), trivial⟩ Zw.i49 rfl rfl rowsHold_nil Zw.r49
theorem Zw.n11 {W : World} {a0 : Option Addr} {m0 c0 : Nat} {f0q0 : Nat → Int} {n1 : Int} (h0 : SlcOk W a0 m0 c0 1 (fun i => [.int .i64 (f0q0 i)])) (b0 : (m0 : Int) < 9223372036854775808) (r0q0 : ∀ i, R64 (f0q0 i)) (r1 : R64 n1) (x1 : Int) (x2 : Int) (g1x : R64 x1) (g2x : R64 x2) (p8 : (0 ≤ x2 ∧ x2 ≤ 30)) : NdGood Tryz.prog Tryz.f3 8 (firstHeap 8 Tryz.gsL) W Zw.p0 Zw.d11 [(.slice a0 m0 c0), (.int .i64 x1), (.int .i64 x2)] :=
  (Zw.s11 h0 b0 r0q0 r1 (30 - x2).toNat) x1 x2 g1x g2x p8 (by omega)
theorem Zw.n3 {W : World} {a0 : Option Addr} {m0 c0 : Nat} {f0q0 : Nat → Int} {n1 : Int} (h0 : SlcOk W a0 m0 c0 1 (fun i => [.int .i64 (f0q0 i)])) (b0 : (m0 : Int) < 9223372036854775808) (r0q0 : ∀ i, R64 (f0q0 i)) (r1 : R64 n1) (x1 : Int) (g1x : R64 x1) (p8 : (0 ≤ x1 ∧ x1 ≤ 30)) : NdGood Tryz.prog Tryz.f3 8 (firstHeap 8 Tryz.gsL) W Zw.p0 Zw.d3 [(.slice a0 m0 c0), (.int .i64 x1)] := by
  have ⟨gl1, gh1⟩ := g1x
  have ⟨rl1, rh1⟩ := r1
  have ⟨p8l, p8h⟩ := p8
  by_cases q1 : x1 < (m0 : Int)
  ·
    by_cases q2 : x1 < (30 : Int)
    ·
      have l3 : (x1).toNat < m0 := by omega
      obtain ⟨p3, v3⟩ := h0.elem l3
      have w3q0 := r0q0 (x1).toNat
      obtain ⟨d4, e4, g4, o4⟩ := ex_add (0 : Int) (f0q0 (x1).toNat)
      obtain ⟨d5, e5, g5, o5⟩ := ex_add x1 (1 : Int)
      exact Zw.nx Zw.t14 [(.int .i64 (f0q0 (x1).toNat)), (.int .i64 (m0 : Int)), (.int .i64 d4), (.int .i64 d5)] [p3] [(.slice a0 m0 c0), (.int .i64 d4), (.int .i64 d5)] (Zw.k0 _) ⟨hold_len (.atom _ _ rfl) (.atom _ _ rfl), hold_bool (.atom _ _ rfl) (.atom _ _ rfl) (op_lss_t q1), hold_bool (.atom _ _ rfl) (.int _ _) (op_lss_t q2), hold_idx v3 l3 (.atom _ _ rfl) (.atom _ _ rfl) (by omega) rfl, hold_op (.int _ _) (.atom _ _ rfl) o4 (.atom _ _ rfl), hold_bool (.atom _ _ rfl) (.atom _ _ rfl) (op_neq_f rfl), hold_op (.atom _ _ rfl) (.int _ _) o5 (.atom _ _ rfl), trivial⟩ Zw.i14 rfl rfl (rowsHold_cons (Elem.row v3 (VL.cons (.atom _ _ rfl) VL.nil)) rowsHold_nil) Zw.r14 rfl rfl (Zw.n11 h0 b0 r0q0 r1 d4 d5 (by first | assumption | (constructor <;> omega) | trivial) (by first | assumption | (constructor <;> omega) | trivial) (by constructor <;> omega))
    ·
      exact Zw.fx Zw.t15 [(.int .i64 (m0 : Int))] [] (Zw.k0 _) ⟨hold_len (.atom _ _ rfl) (.atom _ _ rfl), hold_bool (.atom _ _ rfl) (.atom _ _ rfl) (op_lss_t q1), hold_bool (.atom _ _ rfl) (.int _ _) (op_lss_f (Int.not_lt.1 q2)), trivial⟩ Zw.i15 rfl rfl rowsHold_nil Zw.r15
  ·
    exact Zw.fx Zw.t16 [(.int .i64 (m0 : Int))] [] (Zw.k0 _) ⟨hold_len (.atom _ _ rfl) (.atom _ _ rfl), hold_bool (.atom _ _ rfl) (.atom _ _ rfl) (op_lss_f (Int.not_lt.1 q1)), trivial⟩ Zw.i16 rfl rfl rowsHold_nil Zw.r16
theorem Zw.s12 {W : World} {a0 : Option Addr} {m0 c0 : Nat} {f0q0 : Nat → Int} {n1 : Int} (h0 : SlcOk W a0 m0 c0 1 (fun i => [.int .i64 (f0q0 i)])) (b0 : (m0 : Int) < 9223372036854775808) (r0q0 : ∀ i, R64 (f0q0 i)) (r1 : R64 n1) : ∀ k : Nat, (∀ (x1 : Int) (x2 : Int) (g1x : R64 x1) (g2x : R64 x2) (p8 : (0 ≤ x2 ∧ x2 ≤ 30)), (30 - x2) ≤ k → NdGood Tryz.prog Tryz.f3 8 (firstHeap 8 Tryz.gsL) W Zw.p0 Zw.d12 [(.slice a0 m0 c0), (.int .i64 x1), (.int .i64 x2)]) := by
  intro k
  induction k with
  | zero =>
    intro x1 x2 g1x g2x p8 hk
    have ⟨gl1, gh1⟩ := g1x
    have ⟨gl2, gh2⟩ := g2x
    have ⟨rl1, rh1⟩ := r1
    have ⟨p8l, p8h⟩ := p8
    by_cases q1 : x2 < (m0 : Int)
    ·
      by_cases q2 : x2 < (30 : Int)
      ·
        have l3 : (x2).toNat < m0 := by omega
        obtain ⟨p3, v3⟩ := h0.elem l3
        have w3q0 := r0q0 (x2).toNat
        obtain ⟨d4, e4, g4, o4⟩ := ex_add x1 (f0q0 (x2).toNat)
        obtain ⟨d5, e5, g5, o5⟩ := ex_add x2 (1 : Int)
        exfalso; omega
      ·
        exact Zw.fx Zw.t54 [(.int .i64 (m0 : Int))] [] (Zw.k0 _) ⟨hold_len (.atom _ _ rfl) (.atom _ _ rfl), hold_bool (.atom _ _ rfl) (.atom _ _ rfl) (op_lss_t q1), hold_bool (.atom _ _ rfl) (.int _ _) (op_lss_f (Int.not_lt.1 q2)), trivial⟩ Zw.i54 rfl rfl rowsHold_nil Zw.r54
    ·
      exact Zw.fx Zw.t55 [(.int .i64 (m0 : Int))] [] (Zw.k0 _) ⟨hold_len (.atom _ _ rfl) (.atom _ _ rfl), hold_bool (.atom _ _ rfl) (.atom _ _ rfl) (op_lss_f (Int.not_lt.1 q1)), trivial⟩ Zw.i55 rfl rfl rowsHold_nil Zw.r55
  | succ k ih =>
    have ih12 := ih
    intro x1 x2 g1x g2x p8 hk
    have ⟨gl1, gh1⟩ := g1x
    have ⟨gl2, gh2⟩ := g2x
    have ⟨rl1, rh1⟩ := r1
    have ⟨p8l, p8h⟩ := p8
    by_cases q1 : x2 < (m0 : Int)
    ·
      by_cases q2 : x2 < (30 : Int)
      ·
        have l3 : (x2).toNat < m0 := by omega
        obtain ⟨p3, v3⟩ := h0.elem l3
        have w3q0 := r0q0 (x2).toNat
        obtain ⟨d4, e4, g4, o4⟩ := ex_add x1 (f0q0 (x2).toNat)
        obtain ⟨d5, e5, g5, o5⟩ := ex_add x2 (1 : Int)
        exact Zw.nx Zw.t53 [(.int .i64 (f0q0 (x2).toNat)), (.int .i64 (m0 : Int)), (.int .i64 d4), (.int .i64 d5)] [p3] [(.slice a0 m0 c0), (.int .i64 d4), (.int .i64 d5)] (Zw.k0 _) ⟨hold_len (.atom _ _ rfl) (.atom _ _ rfl), hold_bool (.atom _ _ rfl) (.atom _ _ rfl) (op_lss_t q1), hold_bool (.atom _ _ rfl) (.int _ _) (op_lss_t q2), hold_idx v3 l3 (.atom _ _ rfl) (.atom _ _ rfl) (by omega) rfl, hold_op (.atom _ _ rfl) (.atom _ _ rfl) o4 (.atom _ _ rfl), hold_bool (.atom _ _ rfl) (.atom _ _ rfl) (op_neq_f rfl), hold_op (.atom _ _ rfl) (.int _ _) o5 (.atom _ _ rfl), trivial⟩ Zw.i53 rfl rfl (rowsHold_cons (Elem.row v3 (VL.cons (.atom _ _ rfl) VL.nil)) rowsHold_nil) Zw.r53 rfl rfl (ih12 d4 d5 (by first | assumption | (constructor <;> omega) | trivial) (by first | assumption | (constructor <;> omega) | trivial) (by constructor <;> omega) (by omega))
      ·
        exact Zw.fx Zw.t54 [(.int .i64 (m0 : Int))] [] (Zw.k0 _) ⟨hold_len (.atom _ _ rfl) (.atom _ _ rfl), hold_bool (.atom _ _ rfl) (.atom _ _ rfl) (op_lss_t q1), hold_bool (.atom _ _ rfl) (.int _ _) (op_lss_f (Int.not_lt.1 q2)), trivial⟩ Zw.i54 rfl rfl rowsHold_nil Zw.r54
    ·
      exact Zw.fx Zw.t55 [(.int .i64 (m0 : Int))] [] (Zw.k0 _) ⟨hold_len (.atom _ _ rfl) (.atom _ _ rfl), hold_bool (.atom _ _ rfl) (.atom _ _ rfl) (op_lss_f (Int.not_lt.1 q1)), trivial⟩ Zw.i55 rfl rfl rowsHold_nil Zw.r55
theorem Zw.n12 {W : World} {a0 : Option Addr} {m0 c0 : Nat} {f0q0 : Nat → Int} {n1 : Int} (h0 : SlcOk W a0 m0 c0 1 (fun i => [.int .i64 (f0q0 i)])) (b0 : (m0 : Int) < 9223372036854775808) (r0q0 : ∀ i, R64 (f0q0 i)) (r1 : R64 n1) (x1 : Int) (x2 : Int) (g1x : R64 x1) (g2x : R64 x2) (p8 : (0 ≤ x2 ∧ x2 ≤ 30)) : NdGood Tryz.prog Tryz.f3 8 (firstHeap 8 Tryz.gsL) W Zw.p0 Zw.d12 [(.slice a0 m0 c0), (.int .i64 x1), (.int .i64 x2)] :=
  (Zw.s12 h0 b0 r0q0 r1 (30 - x2).toNat) x1 x2 g1x g2x p8 (by omega)
theorem Zw.n4 {W : World} {a0 : Option Addr} {m0 c0 : Nat} {f0q0 : Nat → Int} {n1 : Int} (h0 : SlcOk W a0 m0 c0 1 (fun i => [.int .i64 (f0q0 i)])) (b0 : (m0 : Int) < 9223372036854775808) (r0q0 : ∀ i, R64 (f0q0 i)) (r1 : R64 n1) (x1 : Int) (g1x : R64 x1) (p8 : (0 ≤ x1 ∧ x1 ≤ 30)) : NdGood Tryz.prog Tryz.f3 8 (firstHeap 8 Tryz.gsL) W Zw.p0 Zw.d4 [(.slice a0 m0 c0), (.int .i64 x1)] := by
  have ⟨gl1, gh1⟩ := g1x
  have ⟨rl1, rh1⟩ := r1
  have ⟨p8l, p8h⟩ := p8
  by_cases q1 : x1 < (m0 : Int)
  ·
    by_cases q2 : x1 < (30 : Int)
    ·
      have l3 : (x1).toNat < m0 := by omega
      obtain ⟨p3, v3⟩ := h0.elem l3
      have w3q0 := r0q0 (x1).toNat
      obtain ⟨d4, e4, g4, o4⟩ := ex_add (0 : Int) (f0q0 (x1).toNat)
      obtain ⟨d5, e5, g5, o5⟩ := ex_add x1 (1 : Int)
      exact Zw.nx Zw.t17 [(.int .i64 (f0q0 (x1).toNat)), (.int .i64 (m0 : Int)), (.int .i64 d4), (.int .i64 d5)] [p3] [(.slice a0 m0 c0), (.int .i64 d4), (.int .i64 d5)] (Zw.k0 _) ⟨hold_len (.atom _ _ rfl) (.atom _ _ rfl), hold_bool (.atom _ _ rfl) (.atom _ _ rfl) (op_lss_t q1), hold_bool (.atom _ _ rfl) (.int _ _) (op_lss_t q2), hold_idx v3 l3 (.atom _ _ rfl) (.atom _ _ rfl) (by omega) rfl, hold_op (.int _ _) (.atom _ _ rfl) o4 (.atom _ _ rfl), hold_bool (.atom _ _ rfl) (.atom _ _ rfl) (op_neq_f rfl), hold_op (.atom _ _ rfl) (.int _ _) o5 (.atom _ _ rfl), trivial⟩ Zw.i17 rfl rfl (rowsHold_cons (Elem.row v3 (VL.cons (.atom _ _ rfl) VL.nil)) rowsHold_nil) Zw.r17 rfl rfl (Zw.n12 h0 b0 r0q0 r1 d4 d5 (by first | assumption | (constructor <;> omega) | trivial) (by first | assumption | (constructor <;> omega) | trivial) (by constructor <;> omega))
    ·
      exact Zw.fx Zw.t18 [(.int .i64 (m0 : Int))] [] (Zw.k0 _) ⟨hold_len (.atom _ _ rfl) (.atom _ _ rfl), hold_bool (.atom _ _ rfl) (.atom _ _ rfl) (op_lss_t q1), hold_bool (.atom _ _ rfl) (.int _ _) (op_lss_f (Int.not_lt.1 q2)), trivial⟩ Zw.i18 rfl rfl rowsHold_nil Zw.r18
  ·
    exact Zw.fx Zw.t19 [(.int .i64 (m0 : Int))] [] (Zw.k0 _) ⟨hold_len (.atom _ _ rfl) (.atom _ _ rfl), hold_bool (.atom _ _ rfl) (.atom _ _ rfl) (op_lss_f (Int.not_lt.1 q1)), trivial⟩ Zw.i19 rfl rfl rowsHold_nil Zw.r19
theorem Zw.s13 {W : World} {a0 : Option Addr} {m0 c0 : Nat} {f0q0 : Nat → Int} {n1 : Int} (h0 : SlcOk W a0 m0 c0 1 (fun i => [.int .i64 (f0q0 i)])) (b0 : (m0 : Int) < 9223372036854775808) (r0q0 : ∀ i, R64 (f0q0 i)) (r1 : R64 n1) : ∀ k : Nat, (∀ (x1 : Int) (x2 : Int) (g1x : R64 x1) (g2x : R64 x2) (p8 : (0 ≤ x2 ∧ x2 ≤ 30)), (30 - x2) ≤ k → NdGood Tryz.prog Tryz.f3 8 (firstHeap 8 Tryz.gsL) W Zw.p0 Zw.d13 [(.slice a0 m0 c0), (.int .i64 x1), (.int .i64 x2)]) := by
  intro k
  induction k with
  | zero =>
    intro x1 x2 g1x g2x p8 hk
    have ⟨gl1, gh1⟩ := g1x
    have ⟨gl2, gh2⟩ := g2x
    have ⟨rl1, rh1⟩ := r1
    have ⟨p8l, p8h⟩ := p8
    by_cases q1 : x2 < (m0 : Int)
    ·
      by_cases q2 : x2 < (30 : Int)
      ·
        have l3 : (x2).toNat < m0 := by omega
        obtain ⟨p3, v3⟩ := h0.elem l3
        have w3q0 := r0q0 (x2).toNat
        obtain ⟨d4, e4, g4, o4⟩ := ex_add x1 (f0q0 (x2).toNat)
        obtain ⟨d5, e5, g5, o5⟩ := ex_add x2 (1 : Int)
        exfalso; omega
      ·
        exact Zw.fx Zw.t60 [(.int .i64 (m0 : Int))] [] (Zw.k0 _) ⟨hold_len (.atom _ _ rfl) (.atom _ _ rfl), hold_bool (.atom _ _ rfl) (.atom _ _ rfl) (op_lss_t q1), hold_bool (.atom _ _ rfl) (.int _ _) (op_lss_f (Int.not_lt.1 q2)), trivial⟩ Zw.i60 rfl rfl rowsHold_nil Zw.r60
    ·
      exact Zw.fx Zw.t61 [(.int .i64 (m0 : Int))] [] (Zw.k0 _) ⟨hold_len (.atom _ _ rfl) (.atom _ _ rfl), hold_bool (.atom _ _ rfl) (.atom _ _ rfl) (op_lss_f (Int.not_lt.1 q1)), trivial⟩ Zw.i61 rfl rfl rowsHold_nil Zw.r61
  | succ k ih =>
    have ih13 := ih
    intro x1 x2 g1x g2x p8 hk
    have ⟨gl1, gh1⟩ := g1x
    have ⟨gl2, gh2⟩ := g2x
    have ⟨rl1, rh1⟩ := r1
    have ⟨p8l, p8h⟩ := p8
    by_cases q1 : x2 < (m0 : Int)
    ·
      by_cases q2 : x2 < (30 : Int)
      ·
        have l3 : (x2).toNat < m0 := by omega
        obtain ⟨p3, v3⟩ := h0.elem l3
        have w3q0 := r0q0 (x2).toNat
        obtain ⟨d4, e4, g4, o4⟩ := ex_add x1 (f0q0 (x2).toNat)
        obtain ⟨d5, e5, g5, o5⟩ := ex_add x2 (1 : Int)
        exact Zw.nx Zw.t59 [(.int .i64 (f0q0 (x2).toNat)), (.int .i64 (m0 : Int)), (.int .i64 d4), (.int .i64 d5)] [p3] [(.slice a0 m0 c0), (.int .i64 d4), (.int .i64 d5)] (Zw.k0 _) ⟨hold_len (.atom _ _ rfl) (.atom _ _ rfl), hold_bool (.atom _ _ rfl) (.atom _ _ rfl) (op_lss_t q1), hold_bool (.atom _ _ rfl) (.int _ _) (op_lss_t q2), hold_idx v3 l3 (.atom _ _ rfl) (.atom _ _ rfl) (by omega) rfl, hold_op (.atom _ _ rfl) (.atom _ _ rfl) o4 (.atom _ _ rfl), hold_bool (.atom _ _ rfl) (.atom _ _ rfl) (op_neq_f rfl), hold_op (.atom _ _ rfl) (.int _ _) o5 (.atom _ _ rfl), trivial⟩ Zw.i59 rfl rfl (rowsHold_cons (Elem.row v3 (VL.cons (.atom _ _ rfl) VL.nil)) rowsHold_nil) Zw.r59 rfl rfl (ih13 d4 d5 (by first | assumption | (constructor <;> omega) | trivial) (by first | assumption | (constructor <;> omega) | trivial) (by constructor <;> omega) (by omega))
      ·
        exact Zw.fx Zw.t60 [(.int .i64 (m0 : Int))] [] (Zw.k0 _) ⟨hold_len (.atom _ _ rfl) (.atom _ _ rfl), hold_bool (.atom _ _ rfl) (.atom _ _ rfl) (op_lss_t q1), hold_bool (.atom _ _ rfl) (.int _ _) (op_lss_f (Int.not_lt.1 q2)), trivial⟩ Zw.i60 rfl rfl rowsHold_nil Zw.r60
    ·
      exact Zw.fx Zw.t61 [(.int .i64 (m0 : Int))] [] (Zw.k0 _) ⟨hold_len (.atom _ _ rfl) (.atom _ _ rfl), hold_bool (.atom _ _ rfl) (.atom _ _ rfl) (op_lss_f (Int.not_lt.1 q1)), trivial⟩ Zw.i61 rfl rfl rowsHold_nil Zw.r61
theorem Zw.n13 {W : World} {a0 : Option Addr} {m0 c0 : Nat} {f0q0 : Nat → Int} {n1 : Int} (h0 : SlcOk W a0 m0 c0 1 (fun i => [.int .i64 (f0q0 i)])) (b0 : (m0 : Int) < 9223372036854775808) (r0q0 : ∀ i, R64 (f0q0 i)) (r1 : R64 n1) (x1 : Int) (x2 : Int) (g1x : R64 x1) (g2x : R64 x2) (p8 : (0 ≤ x2 ∧ x2 ≤ 30)) : NdGood Tryz.prog Tryz.f3 8 (firstHeap 8 Tryz.gsL) W Zw.p0 Zw.d13 [(.slice a0 m0 c0), (.int .i64 x1), (.int .i64 x2)] :=
  (Zw.s13 h0 b0 r0q0 r1 (30 - x2).toNat) x1 x2 g1x g2x p8 (by omega)
theorem Zw.n5 {W : World} {a0 : Option Addr} {m0 c0 : Nat} {f0q0 : Nat → Int} {n1 : Int} (h0 : SlcOk W a0 m0 c0 1 (fun i => [.int .i64 (f0q0 i)])) (b0 : (m0 : Int) < 9223372036854775808) (r0q0 : ∀ i, R64 (f0q0 i)) (r1 : R64 n1) (x1 : Int) (g1x : R64 x1) (p8 : (0 ≤ x1 ∧ x1 ≤ 30)) : NdGood Tryz.prog Tryz.f3 8 (firstHeap 8 Tryz.gsL) W Zw.p0 Zw.d5 [(.slice a0 m0 c0), (.int .i64 x1)] := by
  have ⟨gl1, gh1⟩ := g1x
  have ⟨rl1, rh1⟩ := r1
  have ⟨p8l, p8h⟩ := p8
  by_cases q1 : x1 < (m0 : Int)
  ·
    by_cases q2 : x1 < (30 : Int)
    ·
      have l3 : (x1).toNat < m0 := by omega
      obtain ⟨p3, v3⟩ := h0.elem l3
      have w3q0 := r0q0 (x1).toNat
      obtain ⟨d4, e4, g4, o4⟩ := ex_add (0 : Int) (f0q0 (x1).toNat)
      obtain ⟨d5, e5, g5, o5⟩ := ex_add x1 (1 : Int)
      exact Zw.nx Zw.t20 [(.int .i64 (f0q0 (x1).toNat)), (.int .i64 (m0 : Int)), (.int .i64 d4), (.int .i64 d5)] [p3] [(.slice a0 m0 c0), (.int .i64 d4), (.int .i64 d5)] (Zw.k0 _) ⟨hold_len (.atom _ _ rfl) (.atom _ _ rfl), hold_bool (.atom _ _ rfl) (.atom _ _ rfl) (op_lss_t q1), hold_bool (.atom _ _ rfl) (.int _ _) (op_lss_t q2), hold_idx v3 l3 (.atom _ _ rfl) (.atom _ _ rfl) (by omega) rfl, hold_op (.int _ _) (.atom _ _ rfl) o4 (.atom _ _ rfl), hold_bool (.atom _ _ rfl) (.atom _ _ rfl) (op_neq_f rfl), hold_op (.atom _ _ rfl) (.int _ _) o5 (.atom _ _ rfl), trivial⟩ Zw.i20 rfl rfl (rowsHold_cons (Elem.row v3 (VL.cons (.atom _ _ rfl) VL.nil)) rowsHold_nil) Zw.r20 rfl rfl (Zw.n13 h0 b0 r0q0 r1 d4 d5 (by first | assumption | (constructor <;> omega) | trivial) (by first | assumption | (constructor <;> omega) | trivial) (by constructor <;> omega))
    ·
      exact Zw.fx Zw.t21 [(.int .i64 (m0 : Int))] [] (Zw.k0 _) ⟨hold_len (.atom _ _ rfl) (.atom _ _ rfl), hold_bool (.atom _ _ rfl) (.atom _ _ rfl) (op_lss_t q1), hold_bool (.atom _ _ rfl) (.int _ _) (op_lss_f (Int.not_lt.1 q2)), trivial⟩ Zw.i21 rfl rfl rowsHold_nil Zw.r21
  ·
    exact Zw.fx Zw.t22 [(.int .i64 (m0 : Int))] [] (Zw.k0 _) ⟨hold_len (.atom _ _ rfl) (.atom _ _ rfl), hold_bool (.atom _ _ rfl) (.atom _ _ rfl) (op_lss_f (Int.not_lt.1 q1)), trivial⟩ Zw.i22 rfl rfl rowsHold_nil Zw.r22
theorem Zw.s14 {W : World} {a0 : Option Addr} {m0 c0 : Nat} {f0q0 : Nat → Int} {n1 : Int} (h0 : SlcOk W a0 m0 c0 1 (fun i => [.int .i64 (f0q0 i)])) (b0 : (m0 : Int) < 9223372036854775808) (r0q0 : ∀ i, R64 (f0q0 i)) (r1 : R64 n1) : ∀ k : Nat, (∀ (x1 : Int) (x2 : Int) (g1x : R64 x1) (g2x : R64 x2) (p8 : (0 ≤ x2 ∧ x2 ≤ 30)), (30 - x2) ≤ k → NdGood Tryz.prog Tryz.f3 8 (firstHeap 8 Tryz.gsL) W Zw.p0 Zw.d14 [(.slice a0 m0 c0), (.int .i64 x1), (.int .i64 x2)]) := by
  intro k
  induction k with
  | zero =>
    intro x1 x2 g1x g2x p8 hk
    have ⟨gl1, gh1⟩ := g1x
    have ⟨gl2, gh2⟩ := g2x
    have ⟨rl1, rh1⟩ := r1
    have ⟨p8l, p8h⟩ := p8
    by_cases q1 : x2 < (m0 : Int)
    ·
      by_cases q2 : x2 < (30 : Int)
      ·
        have l3 : (x2).toNat < m0 := by omega
        obtain ⟨p3, v3⟩ := h0.elem l3
        have w3q0 := r0q0 (x2).toNat
        obtain ⟨d4, e4, g4, o4⟩ := ex_add x1 (f0q0 (x2).toNat)
        obtain ⟨d5, e5, g5, o5⟩ := ex_add x2 (1 : Int)
        exfalso; omega
      ·
        exact Zw.fx Zw.t66 [(.int .i64 (m0 : Int))] [] (Zw.k0 _) ⟨hold_len (.atom _ _ rfl) (.atom _ _ rfl), hold_bool (.atom _ _ rfl) (.atom _ _ rfl) (op_lss_t q1), hold_bool (.atom _ _ rfl) (.int _ _) (op_lss_f (Int.not_lt.1 q2)), trivial⟩ Zw.i66 rfl rfl rowsHold_nil Zw.r66
    ·
      exact Zw.fx Zw.t67 [(.int .i64 (m0 : Int))] [] (Zw.k0 _) ⟨hold_len (.atom _ _ rfl) (.atom _ _ rfl), hold_bool (.atom _ _ rfl) (.atom _ _ rfl) (op_lss_f (Int.not_lt.1 q1)), trivial⟩ Zw.i67 rfl rfl rowsHold_nil Zw.r67
  | succ k ih =>
    have ih14 := ih
    intro x1 x2 g1x g2x p8 hk
    have ⟨gl1, gh1⟩ := g1x
    have ⟨gl2, gh2⟩ := g2x
    have ⟨rl1, rh1⟩ := r1
    have ⟨p8l, p8h⟩ := p8
    by_cases q1 : x2 < (m0 : Int)
    ·
      by_cases q2 : x2 < (30 : Int)
      ·
        have l3 : (x2).toNat < m0 := by omega
        obtain ⟨p3, v3⟩ := h0.elem l3
        have w3q0 := r0q0 (x2).toNat
        obtain ⟨d4, e4, g4, o4⟩ := ex_add x1 (f0q0 (x2).toNat)
        obtain ⟨d5, e5, g5, o5⟩ := ex_add x2 (1 : Int)
        exact Zw.nx Zw.t65 [(.int .i64 (f0q0 (x2).toNat)), (.int .i64 (m0 : Int)), (.int .i64 d4), (.int .i64 d5)] [p3] [(.slice a0 m0 c0), (.int .i64 d4), (.int .i64 d5)] (Zw.k0 _) ⟨hold_len (.atom _ _ rfl) (.atom _ _ rfl), hold_bool (.atom _ _ rfl) (.atom _ _ rfl) (op_lss_t q1), hold_bool (.atom _ _ rfl) (.int _ _) (op_lss_t q2), hold_idx v3 l3 (.atom _ _ rfl) (.atom _ _ rfl) (by omega) rfl, hold_op (.atom _ _ rfl) (.atom _ _ rfl) o4 (.atom _ _ rfl), hold_bool (.atom _ _ rfl) (.atom _ _ rfl) (op_neq_f rfl), hold_op (.atom _ _ rfl) (.int _ _) o5 (.atom _ _ rfl), trivial⟩ Zw.i65 rfl rfl (rowsHold_cons (Elem.row v3 (VL.cons (.atom _ _ rfl) VL.nil)) rowsHold_nil) Zw.r65 rfl rfl (ih14 d4 d5 (by first | assumption | (constructor <;> omega) | trivial) (by first | assumption | (constructor <;> omega) | trivial) (by constructor <;> omega) (by omega))
      ·
        exact Zw.fx Zw.t66 [(.int .i64 (m0 : Int))] [] (Zw.k0 _) ⟨hold_len (.atom _ _ rfl) (.atom _ _ rfl), hold_bool (.atom _ _ rfl) (.atom _ _ rfl) (op_lss_t q1), hold_bool (.atom _ _ rfl) (.int _ _) (op_lss_f (Int.not_lt.1 q2)), trivial⟩ Zw.i66 rfl rfl rowsHold_nil Zw.r66
    ·
      exact Zw.fx Zw.t67 [(.int .i64 (m0 : Int))] [] (Zw.k0 _) ⟨hold_len (.atom _ _ rfl) (.atom _ _ rfl), hold_bool (.atom _ _ rfl) (.atom _ _ rfl) (op_lss_f (Int.not_lt.1 q1)), trivial⟩ Zw.i67 rfl rfl rowsHold_nil Zw.r67
theorem Zw.n14 {W : World} {a0 : Option Addr} {m0 c0 : Nat} {f0q0 : Nat → Int} {n1 : Int} (h0 : SlcOk W a0 m0 c0 1 (fun i => [.int .i64 (f0q0 i)])) (b0 : (m0 : Int) < 9223372036854775808) (r0q0 : ∀ i, R64 (f0q0 i)) (r1 : R64 n1) (x1 : Int) (x2 : Int) (g1x : R64 x1) (g2x : R64 x2) (p8 : (0 ≤ x2 ∧ x2 ≤ 30)) : NdGood Tryz.prog Tryz.f3 8 (firstHeap 8 Tryz.gsL) W Zw.p0 Zw.d14 [(.slice a0 m0 c0), (.int .i64 x1), (.int .i64 x2)] :=
  (Zw.s14 h0 b0 r0q0 r1 (30 - x2).toNat) x1 x2 g1x g2x p8 (by omega)
theorem Zw.n6 {W : World} {a0 : Option Addr} {m0 c0 : Nat} {f0q0 : Nat → Int} {n1 : Int} (h0 : SlcOk W a0 m0 c0 1 (fun i => [.int .i64 (f0q0 i)])) (b0 : (m0 : Int) < 9223372036854775808) (r0q0 : ∀ i, R64 (f0q0 i)) (r1 : R64 n1) (x1 : Int) (g1x : R64 x1) (p8 : (0 ≤ x1 ∧ x1 ≤ 30)) : NdGood Tryz.prog Tryz.f3 8 (firstHeap 8 Tryz.gsL) W Zw.p0 Zw.d6 [(.slice a0 m0 c0), (.int .i64 x1)] := by
  have ⟨gl1, gh1⟩ := g1x
  have ⟨rl1, rh1⟩ := r1
  have ⟨p8l, p8h⟩ := p8
  by_cases q1 : x1 < (m0 : Int)
  ·
    by_cases q2 : x1 < (30 : Int)
    ·
      have l3 : (x1).toNat < m0 := by omega
      obtain ⟨p3, v3⟩ := h0.elem l3
      have w3q0 := r0q0 (x1).toNat
      obtain ⟨d4, e4, g4, o4⟩ := ex_add (0 : Int) (f0q0 (x1).toNat)
      obtain ⟨d5, e5, g5, o5⟩ := ex_add x1 (1 : Int)
      exact Zw.nx Zw.t23 [(.int .i64 (f0q0 (x1).toNat)), (.int .i64 (m0 : Int)), (.int .i64 d4), (.int .i64 d5)] [p3] [(.slice a0 m0 c0), (.int .i64 d4), (.int .i64 d5)] (Zw.k0 _) ⟨hold_len (.atom _ _ rfl) (.atom _ _ rfl), hold_bool (.atom _ _ rfl) (.atom _ _ rfl) (op_lss_t q1), hold_bool (.atom _ _ rfl) (.int _ _) (op_lss_t q2), hold_idx v3 l3 (.atom _ _ rfl) (.atom _ _ rfl) (by omega) rfl, hold_op (.int _ _) (.atom _ _ rfl) o4 (.atom _ _ rfl), hold_bool (.atom _ _ rfl) (.atom _ _ rfl) (op_neq_f rfl), hold_op (.atom _ _ rfl) (.int _ _) o5 (.atom _ _ rfl), trivial⟩ Zw.i23 rfl rfl (rowsHold_cons (Elem.row v3 (VL.cons (.atom _ _ rfl) VL.nil)) rowsHold_nil) Zw.r23 rfl rfl (Zw.n14 h0 b0 r0q0 r1 d4 d5 (by first | assumption | (constructor <;> omega) | trivial) (by first | assumption | (constructor <;> omega) | trivial) (by constructor <;> omega))
    ·
      exact Zw.fx Zw.t24 [(.int .i64 (m0 : Int))] [] (Zw.k0 _) ⟨hold_len (.atom _ _ rfl) (.atom _ _ rfl), hold_bool (.atom _ _ rfl) (.atom _ _ rfl) (op_lss_t q1), hold_bool (.atom _ _ rfl) (.int _ _) (op_lss_f (Int.not_lt.1 q2)), trivial⟩ Zw.i24 rfl rfl rowsHold_nil Zw.r24
  ·
    exact Zw.fx Zw.t25 [(.int .i64 (m0 : Int))] [] (Zw.k0 _) ⟨hold_len (.atom _ _ rfl) (.atom _ _ rfl), hold_bool (.atom _ _ rfl) (.atom _ _ rfl) (op_lss_f (Int.not_lt.1 q1)), trivial⟩ Zw.i25 rfl rfl rowsHold_nil Zw.r25
theorem Zw.s15 {W : World} {a0 : Option Addr} {m0 c0 : Nat} {f0q0 : Nat → Int} {n1 : Int} (h0 : SlcOk W a0 m0 c0 1 (fun i => [.int .i64 (f0q0 i)])) (b0 : (m0 : Int) < 9223372036854775808) (r0q0 : ∀ i, R64 (f0q0 i)) (r1 : R64 n1) : ∀ k : Nat, (∀ (x1 : Int) (x2 : Int) (g1x : R64 x1) (g2x : R64 x2) (p8 : (0 ≤ x2 ∧ x2 ≤ 30)), (30 - x2) ≤ k → NdGood Tryz.prog Tryz.f3 8 (firstHeap 8 Tryz.gsL) W Zw.p0 Zw.d15 [(.slice a0 m0 c0), (.int .i64 x1), (.int .i64 x2)]) := by
  intro k
  induction k with
  | zero =>
    intro x1 x2 g1x g2x p8 hk
    have ⟨gl1, gh1⟩ := g1x
    have ⟨gl2, gh2⟩ := g2x
    have ⟨rl1, rh1⟩ := r1
    have ⟨p8l, p8h⟩ := p8
    by_cases q1 : x2 < (m0 : Int)
    ·
      by_cases q2 : x2 < (30 : Int)
      ·
        have l3 : (x2).toNat < m0 := by omega
        obtain ⟨p3, v3⟩ := h0.elem l3
        have w3q0 := r0q0 (x2).toNat
        obtain ⟨d4, e4, g4, o4⟩ := ex_add x1 (f0q0 (x2).toNat)
        obtain ⟨d5, e5, g5, o5⟩ := ex_add x2 (1 : Int)
        exfalso; omega
      ·
        exact Zw.fx Zw.t72 [(.int .i64 (m0 : Int))] [] (Zw.k0 _) ⟨hold_len (.atom _ _ rfl) (.atom _ _ rfl), hold_bool (.atom _ _ rfl) (.atom _ _ rfl) (op_lss_t q1), hold_bool (.atom _ _ rfl) (.int _ _) (op_lss_f (Int.not_lt.1 q2)), trivial⟩ Zw.i72 rfl rfl rowsHold_nil Zw.r72
    ·
      exact Zw.fx Zw.t73 [(.int .i64 (m0 : Int))] [] (Zw.k0 _) ⟨hold_len (.atom _ _ rfl) (.atom _ _ rfl), hold_bool (.atom _ _ rfl) (.atom _ _ rfl) (op_lss_f (Int.not_lt.1 q1)), trivial⟩ Zw.i73 rfl rfl rowsHold_nil Zw.r73
  | succ k ih =>
    have ih15 := ih
    intro x1 x2 g1x g2x p8 hk
    have ⟨gl1, gh1⟩ := g1x
    have ⟨gl2, gh2⟩ := g2x
    have ⟨rl1, rh1⟩ := r1
    have ⟨p8l, p8h⟩ := p8
    by_cases q1 : x2 < (m0 : Int)
    ·
      by_cases q2 : x2 < (30 : Int)
      ·
        have l3 : (x2).toNat < m0 := by omega
        obtain ⟨p3, v3⟩ := h0.elem l3
        have w3q0 := r0q0 (x2).toNat
        obtain ⟨d4, e4, g4, o4⟩ := ex_add x1 (f0q0 (x2).toNat)
        obtain ⟨d5, e5, g5, o5⟩ := ex_add x2 (1 : Int)
        exact Zw.nx Zw.t71 [(.int .i64 (f0q0 (x2).toNat)), (.int .i64 (m0 : Int)), (.int .i64 d4), (.int .i64 d5)] [p3] [(.slice a0 m0 c0), (.int .i64 d4), (.int .i64 d5)] (Zw.k0 _) ⟨hold_len (.atom _ _ rfl) (.atom _ _ rfl), hold_bool (.atom _ _ rfl) (.atom _ _ rfl) (op_lss_t q1), hold_bool (.atom _ _ rfl) (.int _ _) (op_lss_t q2), hold_idx v3 l3 (.atom _ _ rfl) (.atom _ _ rfl) (by omega) rfl, hold_op (.atom _ _ rfl) (.atom _ _ rfl) o4 (.atom _ _ rfl), hold_bool (.atom _ _ rfl) (.atom _ _ rfl) (op_neq_f rfl), hold_op (.atom _ _ rfl) (.int _ _) o5 (.atom _ _ rfl), trivial⟩ Zw.i71 rfl rfl (rowsHold_cons (Elem.row v3 (VL.cons (.atom _ _ rfl) VL.nil)) rowsHold_nil) Zw.r71 rfl rfl (ih15 d4 d5 (by first | assumption | (constructor <;> omega) | trivial) (by first | assumption | (constructor <;> omega) | trivial) (by constructor <;> omega) (by omega))
      ·
        exact Zw.fx Zw.t72 [(.int .i64 (m0 : Int))] [] (Zw.k0 _) ⟨hold_len (.atom _ _ rfl) (.atom _ _ rfl), hold_bool (.atom _ _ rfl) (.atom _ _ rfl) (op_lss_t q1), hold_bool (.atom _ _ rfl) (.int _ _) (op_lss_f (Int.not_lt.1 q2)), trivial⟩ Zw.i72 rfl rfl rowsHold_nil Zw.r72
    ·
      exact Zw.fx Zw.t73 [(.int .i64 (m0 : Int))] [] (Zw.k0 _) ⟨hold_len (.atom _ _ rfl) (.atom _ _ rfl), hold_bool (.atom _ _ rfl) (.atom _ _ rfl) (op_lss_f (Int.not_lt.1 q1)), trivial⟩ Zw.i73 rfl rfl rowsHold_nil Zw.r73
theorem Zw.n15 {W : World} {a0 : Option Addr} {m0 c0 : Nat} {f0q0 : Nat → Int} {n1 : Int} (h0 : SlcOk W a0 m0 c0 1 (fun i => [.int .i64 (f0q0 i)])) (b0 : (m0 : Int) < 9223372036854775808) (r0q0 : ∀ i, R64 (f0q0 i)) (r1 : R64 n1) (x1 : Int) (x2 : Int) (g1x : R64 x1) (g2x : R64 x2) (p8 : (0 ≤ x2 ∧ x2 ≤ 30)) : NdGood Tryz.prog Tryz.f3 8 (firstHeap 8 Tryz.gsL) W Zw.p0 Zw.d15 [(.slice a0 m0 c0), (.int .i64 x1), (.int .i64 x2)] :=
  (Zw.s15 h0 b0 r0q0 r1 (30 - x2).toNat) x1 x2 g1x g2x p8 (by omega)
theorem Zw.n7 {W : World} {a0 : Option Addr} {m0 c0 : Nat} {f0q0 : Nat → Int} {n1 : Int} (h0 : SlcOk W a0 m0 c0 1 (fun i => [.int .i64 (f0q0 i)])) (b0 : (m0 : Int) < 9223372036854775808) (r0q0 : ∀ i, R64 (f0q0 i)) (r1 : R64 n1) (x1 : Int) (g1x : R64 x1) (p8 : (0 ≤ x1 ∧ x1 ≤ 30)) : NdGood Tryz.prog Tryz.f3 8 (firstHeap 8 Tryz.gsL) W Zw.p0 Zw.d7 [(.slice a0 m0 c0), (.int .i64 x1)] := by
  have ⟨gl1, gh1⟩ := g1x
  have ⟨rl1, rh1⟩ := r1
  have ⟨p8l, p8h⟩ := p8
  by_cases q1 : x1 < (m0 : Int)
  ·
    by_cases q2 : x1 < (30 : Int)
    ·
      have l3 : (x1).toNat < m0 := by omega
      obtain ⟨p3, v3⟩ := h0.elem l3
      have w3q0 := r0q0 (x1).toNat
      obtain ⟨d4, e4, g4, o4⟩ := ex_add (0 : Int) (f0q0 (x1).toNat)
      obtain ⟨d5, e5, g5, o5⟩ := ex_add x1 (1 : Int)
      exact Zw.nx Zw.t26 [(.int .i64 (f0q0 (x1).toNat)), (.int .i64 (m0 : Int)), (.int .i64 d4), (.int .i64 d5)] [p3] [(.slice a0 m0 c0), (.int .i64 d4), (.int .i64 d5)] (Zw.k0 _) ⟨hold_len (.atom _ _ rfl) (.atom _ _ rfl), hold_bool (.atom _ _ rfl) (.atom _ _ rfl) (op_lss_t q1), hold_bool (.atom _ _ rfl) (.int _ _) (op_lss_t q2), hold_idx v3 l3 (.atom _ _ rfl) (.atom _ _ rfl) (by omega) rfl, hold_op (.int _ _) (.atom _ _ rfl) o4 (.atom _ _ rfl), hold_bool (.atom _ _ rfl) (.atom _ _ rfl) (op_neq_f rfl), hold_op (.atom _ _ rfl) (.int _ _) o5 (.atom _ _ rfl), trivial⟩ Zw.i26 rfl rfl (rowsHold_cons (Elem.row v3 (VL.cons (.atom _ _ rfl) VL.nil)) rowsHold_nil) Zw.r26 rfl rfl (Zw.n15 h0 b0 r0q0 r1 d4 d5 (by first | assumption | (constructor <;> omega) | trivial) (by first | assumption | (constructor <;> omega) | trivial) (by constructor <;> omega))
    ·
      exact Zw.fx Zw.t27 [(.int .i64 (m0 : Int))] [] (Zw.k0 _) ⟨hold_len (.atom _ _ rfl) (.atom _ _ rfl), hold_bool (.atom _ _ rfl) (.atom _ _ rfl) (op_lss_t q1), hold_bool (.atom _ _ rfl) (.int _ _) (op_lss_f (Int.not_lt.1 q2)), trivial⟩ Zw.i27 rfl rfl rowsHold_nil Zw.r27
  ·
    exact Zw.fx Zw.t28 [(.int .i64 (m0 : Int))] [] (Zw.k0 _) ⟨hold_len (.atom _ _ rfl) (.atom _ _ rfl), hold_bool (.atom _ _ rfl) (.atom _ _ rfl) (op_lss_f (Int.not_lt.1 q1)), trivial⟩ Zw.i28 rfl rfl rowsHold_nil Zw.r28
theorem Zw.s16 {W : World} {a0 : Option Addr} {m0 c0 : Nat} {f0q0 : Nat → Int} {n1 : Int} (h0 : SlcOk W a0 m0 c0 1 (fun i => [.int .i64 (f0q0 i)])) (b0 : (m0 : Int) < 9223372036854775808) (r0q0 : ∀ i, R64 (f0q0 i)) (r1 : R64 n1) : ∀ k : Nat, (∀ (x1 : Int) (x2 : Int) (g1x : R64 x1) (g2x : R64 x2) (p8 : (0 ≤ x2 ∧ x2 ≤ 30)), (30 - x2) ≤ k → NdGood Tryz.prog Tryz.f3 8 (firstHeap 8 Tryz.gsL) W Zw.p0 Zw.d16 [(.slice a0 m0 c0), (.int .i64 x1), (.int .i64 x2)]) := by
  intro k
  induction k with
  | zero =>
    intro x1 x2 g1x g2x p8 hk
    have ⟨gl1, gh1⟩ := g1x
    have ⟨gl2, gh2⟩ := g2x
    have ⟨rl1, rh1⟩ := r1
    have ⟨p8l, p8h⟩ := p8
    by_cases q1 : x2 < (m0 : Int)
    ·
      by_cases q2 : x2 < (30 : Int)
      ·
        have l3 : (x2).toNat < m0 := by omega
        obtain ⟨p3, v3⟩ := h0.elem l3
        have w3q0 := r0q0 (x2).toNat
        obtain ⟨d4, e4, g4, o4⟩ := ex_add x1 (f0q0 (x2).toNat)
        obtain ⟨d5, e5, g5, o5⟩ := ex_add x2 (1 : Int)
        exfalso; omega
      ·
        exact Zw.fx Zw.t78 [(.int .i64 (m0 : Int))] [] (Zw.k0 _) ⟨hold_len (.atom _ _ rfl) (.atom _ _ rfl), hold_bool (.atom _ _ rfl) (.atom _ _ rfl) (op_lss_t q1), hold_bool (.atom _ _ rfl) (.int _ _) (op_lss_f (Int.not_lt.1 q2)), trivial⟩ Zw.i78 rfl rfl rowsHold_nil Zw.r78
    ·
      exact Zw.fx Zw.t79 [(.int .i64 (m0 : Int))] [] (Zw.k0 _) ⟨hold_len (.atom _ _ rfl) (.atom _ _ rfl), hold_bool (.atom _ _ rfl) (.atom _ _ rfl) (op_lss_f (Int.not_lt.1 q1)), trivial⟩ Zw.i79 rfl rfl rowsHold_nil Zw.r79
  | succ k ih =>
    have ih16 := ih
    intro x1 x2 g1x g2x p8 hk
    have ⟨gl1, gh1⟩ := g1x
    have ⟨gl2, gh2⟩ := g2x
    have ⟨rl1, rh1⟩ := r1
    have ⟨p8l, p8h⟩ := p8
    by_cases q1 : x2 < (m0 : Int)
    ·
      by_cases q2 : x2 < (30 : Int)
      ·
        have l3 : (x2).toNat < m0 := by omega
        obtain ⟨p3, v3⟩ := h0.elem l3
        have w3q0 := r0q0 (x2).toNat
        obtain ⟨d4, e4, g4, o4⟩ := ex_add x1 (f0q0 (x2).toNat)
        obtain ⟨d5, e5, g5, o5⟩ := ex_add x2 (1 : Int)
        exact Zw.nx Zw.t77 [(.int .i64 (f0q0 (x2).toNat)), (.int .i64 (m0 : Int)), (.int .i64 d4), (.int .i64 d5)] [p3] [(.slice a0 m0 c0), (.int .i64 d4), (.int .i64 d5)] (Zw.k0 _) ⟨hold_len (.atom _ _ rfl) (.atom _ _ rfl), hold_bool (.atom _ _ rfl) (.atom _ _ rfl) (op_lss_t q1), hold_bool (.atom _ _ rfl) (.int _ _) (op_lss_t q2), hold_idx v3 l3 (.atom _ _ rfl) (.atom _ _ rfl) (by omega) rfl, hold_op (.atom _ _ rfl) (.atom _ _ rfl) o4 (.atom _ _ rfl), hold_bool (.atom _ _ rfl) (.atom _ _ rfl) (op_neq_f rfl), hold_op (.atom _ _ rfl) (.int _ _) o5 (.atom _ _ rfl), trivial⟩ Zw.i77 rfl rfl (rowsHold_cons (Elem.row v3 (VL.cons (.atom _ _ rfl) VL.nil)) rowsHold_nil) Zw.r77 rfl rfl (ih16 d4 d5 (by first | assumption | (constructor <;> omega) | trivial) (by first | assumption | (constructor <;> omega) | trivial) (by constructor <;> omega) (by omega))
      ·
        exact Zw.fx Zw.t78 [(.int .i64 (m0 : Int))] [] (Zw.k0 _) ⟨hold_len (.atom _ _ rfl) (.atom _ _ rfl), hold_bool (.atom _ _ rfl) (.atom _ _ rfl) (op_lss_t q1), hold_bool (.atom _ _ rfl) (.int _ _) (op_lss_f (Int.not_lt.1 q2)), trivial⟩ Zw.i78 rfl rfl rowsHold_nil Zw.r78
    ·
      exact Zw.fx Zw.t79 [(.int .i64 (m0 : Int))] [] (Zw.k0 _) ⟨hold_len (.atom _ _ rfl) (.atom _ _ rfl), hold_bool (.atom _ _ rfl) (.atom _ _ rfl) (op_lss_f (Int.not_lt.1 q1)), trivial⟩ Zw.i79 rfl rfl rowsHold_nil Zw.r79
theorem Zw.n16 {W : World} {a0 : Option Addr} {m0 c0 : Nat} {f0q0 : Nat → Int} {n1 : Int} (h0 : SlcOk W a0 m0 c0 1 (fun i => [.int .i64 (f0q0 i)])) (b0 : (m0 : Int) < 9223372036854775808) (r0q0 : ∀ i, R64 (f0q0 i)) (r1 : R64 n1) (x1 : Int) (x2 : Int) (g1x : R64 x1) (g2x : R64 x2) (p8 : (0 ≤ x2 ∧ x2 ≤ 30)) : NdGood Tryz.prog Tryz.f3 8 (firstHeap 8 Tryz.gsL) W Zw.p0 Zw.d16 [(.slice a0 m0 c0), (.int .i64 x1), (.int .i64 x2)] :=
  (Zw.s16 h0 b0 r0q0 r1 (30 - x2).toNat) x1 x2 g1x g2x p8 (by omega)
theorem Zw.n8 {W : World} {a0 : Option Addr} {m0 c0 : Nat} {f0q0 : Nat → Int} {n1 : Int} (h0 : SlcOk W a0 m0 c0 1 (fun i => [.int .i64 (f0q0 i)])) (b0 : (m0 : Int) < 9223372036854775808) (r0q0 : ∀ i, R64 (f0q0 i)) (r1 : R64 n1) (x1 : Int) (g1x : R64 x1) (p8 : (0 ≤ x1 ∧ x1 ≤ 30)) : NdGood Tryz.prog Tryz.f3 8 (firstHeap 8 Tryz.gsL) W Zw.p0 Zw.d8 [(.slice a0 m0 c0), (.int .i64 x1)] := by
  have ⟨gl1, gh1⟩ := g1x
  have ⟨rl1, rh1⟩ := r1
  have ⟨p8l, p8h⟩ := p8
  by_cases q1 : x1 < (m0 : Int)
  ·
    by_cases q2 : x1 < (30 : Int)
    ·
      have l3 : (x1).toNat < m0 := by omega
      obtain ⟨p3, v3⟩ := h0.elem l3
      have w3q0 := r0q0 (x1).toNat
      obtain ⟨d4, e4, g4, o4⟩ := ex_add (0 : Int) (f0q0 (x1).toNat)
      obtain ⟨d5, e5, g5, o5⟩ := ex_add x1 (1 : Int)
      exact Zw.nx Zw.t29 [(.int .i64 (f0q0 (x1).toNat)), (.int .i64 (m0 : Int)), (.int .i64 d4), (.int .i64 d5)] [p3] [(.slice a0 m0 c0), (.int .i64 d4), (.int .i64 d5)] (Zw.k0 _) ⟨hold_len (.atom _ _ rfl) (.atom _ _ rfl), hold_bool (.atom _ _ rfl) (.atom _ _ rfl) (op_lss_t q1), hold_bool (.atom _ _ rfl) (.int _ _) (op_lss_t q2), hold_idx v3 l3 (.atom _ _ rfl) (.atom _ _ rfl) (by omega) rfl, hold_op (.int _ _) (.atom _ _ rfl) o4 (.atom _ _ rfl), hold_bool (.atom _ _ rfl) (.atom _ _ rfl) (op_neq_f rfl), hold_op (.atom _ _ rfl) (.int _ _) o5 (.atom _ _ rfl), trivial⟩ Zw.i29 rfl rfl (rowsHold_cons (Elem.row v3 (VL.cons (.atom _ _ rfl) VL.nil)) rowsHold_nil) Zw.r29 rfl rfl (Zw.n16 h0 b0 r0q0 r1 d4 d5 (by first | assumption | (constructor <;> omega) | trivial) (by first | assumption | (constructor <;> omega) | trivial) (by constructor <;> omega))
    ·
      exact Zw.fx Zw.t30 [(.int .i64 (m0 : Int))] [] (Zw.k0 _) ⟨hold_len (.atom _ _ rfl) (.atom _ _ rfl), hold_bool (.atom _ _ rfl) (.atom _ _ rfl) (op_lss_t q1), hold_bool (.atom _ _ rfl) (.int _ _) (op_lss_f (Int.not_lt.1 q2)), trivial⟩ Zw.i30 rfl rfl rowsHold_nil Zw.r30
  ·
    exact Zw.fx Zw.t31 [(.int .i64 (m0 : Int))] [] (Zw.k0 _) ⟨hold_len (.atom _ _ rfl) (.atom _ _ rfl), hold_bool (.atom _ _ rfl) (.atom _ _ rfl) (op_lss_f (Int.not_lt.1 q1)), trivial⟩ Zw.i31 rfl rfl rowsHold_nil Zw.r31
theorem Zw.n0 {W : World} {a0 : Option Addr} {m0 c0 : Nat} {f0q0 : Nat → Int} {n1 : Int} (h0 : SlcOk W a0 m0 c0 1 (fun i => [.int .i64 (f0q0 i)])) (b0 : (m0 : Int) < 9223372036854775808) (r0q0 : ∀ i, R64 (f0q0 i)) (r1 : R64 n1) : NdGood Tryz.prog Tryz.f3 8 (firstHeap 8 Tryz.gsL) W Zw.pS Zw.d0 [(.slice a0 m0 c0), (.int .i64 n1)] := by
  have ⟨rl1, rh1⟩ := r1
  obtain ⟨d1, ⟨y1, e1, z1, u1, w1⟩, g1, o1⟩ := ex_rem n1 (8 : Int) (by omega) (by omega)
  obtain ⟨d2, e2, g2, o2⟩ := ex_add d1 (8 : Int)
  obtain ⟨d3, ⟨y3, e3, z3, u3, w3⟩, g3, o3⟩ := ex_rem d2 (8 : Int) (by omega) (by omega)
  rcases (show d3 = 0 ∨ d3 = 1 ∨ d3 = 2 ∨ d3 = 3 ∨ d3 = 4 ∨ d3 = 5 ∨ d3 = 6 ∨ d3 = 7 by omega) with k3 | k3 | k3 | k3 | k3 | k3 | k3 | k3
  ·
    exact Zw.nx Zw.t0 [(.int .i64 d1), (.int .i64 d2)] [] [(.slice a0 m0 c0), (.int .i64 0)] (Zw.kS _) ⟨hold_op (.atom _ _ rfl) (.int _ _) (o1 .i64) (.atom _ _ rfl), hold_op (.atom _ _ rfl) (.int _ _) o2 (.atom _ _ rfl), hold_op (.atom _ _ rfl) (.int _ _) (by have := (o3 .i64); rw [k3] at this; exact this) (.int _ _), trivial⟩ Zw.i0 rfl rfl rowsHold_nil Zw.r0 rfl rfl (Zw.n1 h0 b0 r0q0 r1 0 (by first | assumption | (constructor <;> omega) | trivial) (by constructor <;> omega))
  ·
    exact Zw.nx Zw.t1 [(.int .i64 d1), (.int .i64 d2)] [] [(.slice a0 m0 c0), (.int .i64 0)] (Zw.kS _) ⟨hold_op (.atom _ _ rfl) (.int _ _) (o1 .i64) (.atom _ _ rfl), hold_op (.atom _ _ rfl) (.int _ _) o2 (.atom _ _ rfl), hold_op (.atom _ _ rfl) (.int _ _) (by have := (o3 .i64); rw [k3] at this; exact this) (.int _ _), trivial⟩ Zw.i1 rfl rfl rowsHold_nil Zw.r1 rfl rfl (Zw.n2 h0 b0 r0q0 r1 0 (by first | assumption | (constructor <;> omega) | trivial) (by constructor <;> omega))
  ·
    exact Zw.nx Zw.t2 [(.int .i64 d1), (.int .i64 d2)] [] [(.slice a0 m0 c0), (.int .i64 0)] (Zw.kS _) ⟨hold_op (.atom _ _ rfl) (.int _ _) (o1 .i64) (.atom _ _ rfl), hold_op (.atom _ _ rfl) (.int _ _) o2 (.atom _ _ rfl), hold_op (.atom _ _ rfl) (.int _ _) (by have := (o3 .i64); rw [k3] at this; exact this) (.int _ _), trivial⟩ Zw.i2 rfl rfl rowsHold_nil Zw.r2 rfl rfl (Zw.n3 h0 b0 r0q0 r1 0 (by first | assumption | (constructor <;> omega) | trivial) (by constructor <;> omega))
  ·
    exact Zw.nx Zw.t3 [(.int .i64 d1), (.int .i64 d2)] [] [(.slice a0 m0 c0), (.int .i64 0)] (Zw.kS _) ⟨hold_op (.atom _ _ rfl) (.int _ _) (o1 .i64) (.atom _ _ rfl), hold_op (.atom _ _ rfl) (.int _ _) o2 (.atom _ _ rfl), hold_op (.atom _ _ rfl) (.int _ _) (by have := (o3 .i64); rw [k3] at this; exact this) (.int _ _), trivial⟩ Zw.i3 rfl rfl rowsHold_nil Zw.r3 rfl rfl (Zw.n4 h0 b0 r0q0 r1 0 (by first | assumption | (constructor <;> omega) | trivial) (by constructor <;> omega))
  ·
    exact Zw.nx Zw.t4 [(.int .i64 d1), (.int .i64 d2)] [] [(.slice a0 m0 c0), (.int .i64 0)] (Zw.kS _) ⟨hold_op (.atom _ _ rfl) (.int _ _) (o1 .i64) (.atom _ _ rfl), hold_op (.atom _ _ rfl) (.int _ _) o2 (.atom _ _ rfl), hold_op (.atom _ _ rfl) (.int _ _) (by have := (o3 .i64); rw [k3] at this; exact this) (.int _ _), trivial⟩ Zw.i4 rfl rfl rowsHold_nil Zw.r4 rfl rfl (Zw.n5 h0 b0 r0q0 r1 0 (by first | assumption | (constructor <;> omega) | trivial) (by constructor <;> omega))
  ·
    exact Zw.nx Zw.t5 [(.int .i64 d1), (.int .i64 d2)] [] [(.slice a0 m0 c0), (.int .i64 0)] (Zw.kS _) ⟨hold_op (.atom _ _ rfl) (.int _ _) (o1 .i64) (.atom _ _ rfl), hold_op (.atom _ _ rfl) (.int _ _) o2 (.atom _ _ rfl), hold_op (.atom _ _ rfl) (.int _ _) (by have := (o3 .i64); rw [k3] at this; exact this) (.int _ _), trivial⟩ Zw.i5 rfl rfl rowsHold_nil Zw.r5 rfl rfl (Zw.n6 h0 b0 r0q0 r1 0 (by first | assumption | (constructor <;> omega) | trivial) (by constructor <;> omega))
  ·
    exact Zw.nx Zw.t6 [(.int .i64 d1), (.int .i64 d2)] [] [(.slice a0 m0 c0), (.int .i64 0)] (Zw.kS _) ⟨hold_op (.atom _ _ rfl) (.int _ _) (o1 .i64) (.atom _ _ rfl), hold_op (.atom _ _ rfl) (.int _ _) o2 (.atom _ _ rfl), hold_op (.atom _ _ rfl) (.int _ _) (by have := (o3 .i64); rw [k3] at this; exact this) (.int _ _), trivial⟩ Zw.i6 rfl rfl rowsHold_nil Zw.r6 rfl rfl (Zw.n7 h0 b0 r0q0 r1 0 (by first | assumption | (constructor <;> omega) | trivial) (by constructor <;> omega))
  ·
    exact Zw.nx Zw.t7 [(.int .i64 d1), (.int .i64 d2)] [] [(.slice a0 m0 c0), (.int .i64 0)] (Zw.kS _) ⟨hold_op (.atom _ _ rfl) (.int _ _) (o1 .i64) (.atom _ _ rfl), hold_op (.atom _ _ rfl) (.int _ _) o2 (.atom _ _ rfl), hold_op (.atom _ _ rfl) (.int _ _) (by have := (o3 .i64); rw [k3] at this; exact this) (.int _ _), trivial⟩ Zw.i7 rfl rfl rowsHold_nil Zw.r7 rfl rfl (Zw.n8 h0 b0 r0q0 r1 0 (by first | assumption | (constructor <;> omega) | trivial) (by constructor <;> omega))
end Go.Proofs
