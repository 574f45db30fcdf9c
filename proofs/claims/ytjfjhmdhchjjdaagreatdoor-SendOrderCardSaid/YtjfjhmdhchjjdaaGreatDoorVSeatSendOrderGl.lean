/- The law, node by node; hence from its start, for every input. No conditions. -/
import Derived.Test.YtjfjhmdhchjjdaaGreatDoorVSeatSendOrderR1
import Derived.Test.YtjfjhmdhchjjdaaGreatDoorVSeatSendOrderR2
import Derived.Test.YtjfjhmdhchjjdaaGreatDoorVSeatSendOrderR3
set_option linter.all false
namespace Go.Proofs
open Go Go.Vsx Go.RowKit
set_option maxRecDepth 1000000
set_option maxHeartbeats 4000000
set_option linter.unusedVariables false
theorem Zw.r64a {x : Int} (h : R64 x) : -9223372036854775808 ≤ x ∧ x < 9223372036854775808 := h
theorem Zw.nx {W : World} {pt pt' : Pt} {d d' : Nd} {vals : List Value} {roc : List (List Value)} {j hk : Nat} {rl : List (Nat × Nat)} {A : List Value} {vals' : List Value} (t : List SE) (ex : List Value) (rows : List Pl)
    (hok : ∀ sy, okPt (Tryz.Es Tryz.m3 sy) 8 pt = true) (hold : AllHold (nodeMu 8 rows (vals ++ ex)) t)
    (hid : d.sub 8 roc (idl 8 d.objs) (idA hk) (d.st 8 []) = true) (hrow : RowsHold W (nodeMu 8 rows (vals ++ ex)) rows roc)
    (hrun : leafNext (fK (Tryz.Es Tryz.m3 (syOf t)) 100000 100000 pt (d.st 8 roc) j) 8 d' rl A = some pt')
    (h : NdGood Tryz.prog Tryz.f6 8 Tryz.H0 W pt' d' vals') (hlen : hk = vals.length) (hone : (vals ++ ex).all (·.oneCell') = true) (hA : evL (nodeMu 8 rows (vals ++ ex)) A = some vals') (hone' : vals'.all (·.oneCell') = true) : NdGood Tryz.prog Tryz.f6 8 Tryz.H0 W pt d vals :=
  NdGood.next (E := Tryz.Es Tryz.m3 (syOf t)) (extras := ex) (rows := rows) (vals' := vals') (by omega) (Tryz.right Tryz.m3 (syOf t) _ W Tryz.mOk3 (symOk_of rfl hold)) (hok _) hid hlen hone hrow hrun hA hone' h
theorem Zw.fx {W : World} {pt : Pt} {d : Nd} {vals : List Value} {roc : List (List Value)} {j hk : Nat} (t : List SE) (ex : List Value) (rows : List Pl)
    (hok : ∀ sy, okPt (Tryz.Es Tryz.m3 sy) 8 pt = true) (hold : AllHold (nodeMu 8 rows (vals ++ ex)) t)
    (hid : d.sub 8 roc (idl 8 d.objs) (idA hk) (d.st 8 []) = true) (hlen : hk = vals.length) (hone : (vals ++ ex).all (·.oneCell') = true) (hrow : RowsHold W (nodeMu 8 rows (vals ++ ex)) rows roc)
    (hrun : leafFin (Tryz.Es Tryz.m3 (syOf t)) Tryz.f6 (fK (Tryz.Es Tryz.m3 (syOf t)) 100000 100000 pt (d.st 8 roc) j) = true) : NdGood Tryz.prog Tryz.f6 8 Tryz.H0 W pt d vals :=
  NdGood.fin (E := Tryz.Es Tryz.m3 (syOf t)) (extras := ex) (rows := rows) (by omega) (Tryz.right Tryz.m3 (syOf t) _ W Tryz.mOk3 (symOk_of rfl hold)) (hok _) hid hlen hone hrow hrun

theorem Zw.n1 {W : World} {n0 : Int} {a1 : Option Addr} {m1 c1 : Nat} {f1q0 : Nat → Bool} (r0 : R64 n0) (h1 : SlcOk W a1 m1 c1 1 (fun i => [.bool (f1q0 i)])) (b1 : (m1 : Int) < 9223372036854775808) {x1 : Int} (g1x : R64 x1) (p11 : (0 ≤ x1 ∧ x1 ≤ 100)) : NdGood Tryz.prog Tryz.f6 8 Tryz.H0 W Zw.p2 Zw.d1 [(.slice a1 m1 c1), (.int .i64 x1)] := by
  have ⟨gl1, gh1⟩ := g1x
  have ⟨rl0, rh0⟩ := r0
  have ⟨p11l, p11h⟩ := p11
  exact Zw.fx Zw.t12 [] [] (Zw.k2 _) ⟨Zw.hl rfl (by first | omega | assumption), trivial⟩ Zw.i12 rfl rfl rowsHold_nil Zw.r12
theorem Zw.n13 {W : World} {n0 : Int} {a1 : Option Addr} {m1 c1 : Nat} {f1q0 : Nat → Bool} (r0 : R64 n0) (h1 : SlcOk W a1 m1 c1 1 (fun i => [.bool (f1q0 i)])) (b1 : (m1 : Int) < 9223372036854775808) {x1 : Int} (g1x : R64 x1) (p11 : (0 ≤ x1 ∧ x1 ≤ 101)) : NdGood Tryz.prog Tryz.f6 8 Tryz.H0 W Zw.p2 Zw.d13 [(.slice a1 m1 c1), (.int .i64 x1)] := by
  have ⟨gl1, gh1⟩ := g1x
  have ⟨rl0, rh0⟩ := r0
  have ⟨p11l, p11h⟩ := p11
  exact Zw.fx Zw.t57 [] [] (Zw.k2 _) ⟨Zw.hl rfl (by first | omega | assumption), trivial⟩ Zw.i57 rfl rfl rowsHold_nil Zw.r57
theorem Zw.s2 {W : World} {n0 : Int} {a1 : Option Addr} {m1 c1 : Nat} {f1q0 : Nat → Bool} (r0 : R64 n0) (h1 : SlcOk W a1 m1 c1 1 (fun i => [.bool (f1q0 i)])) (b1 : (m1 : Int) < 9223372036854775808) : ∀ k : Nat, (∀ {x1 : Int} (g1x : R64 x1) (p11 : (0 ≤ x1 ∧ x1 ≤ 100)), (100 - x1) < k → NdGood Tryz.prog Tryz.f6 8 Tryz.H0 W Zw.p2 Zw.d2 [(.slice a1 m1 c1), (.int .i64 x1)]) := by
  intro k
  induction k with
  | zero =>
    intro x1 g1x p11 hk
    have ⟨gl1, gh1⟩ := g1x
    have ⟨rl0, rh0⟩ := r0
    have ⟨p11l, p11h⟩ := p11
    exfalso; omega
  | succ k ih =>
    have ih2 := @ih
    intro x1 g1x p11 hk
    have ⟨gl1, gh1⟩ := g1x
    have ⟨rl0, rh0⟩ := r0
    have ⟨p11l, p11h⟩ := p11
    by_cases q1 : x1 < (100 : Int)
    ·
      by_cases q2 : x1 < (m1 : Int)
      ·
        have l3 : (x1).toNat < m1 := by omega
        obtain ⟨p3, v3⟩ := h1.elem l3
        cases z4 : f1q0 (x1).toNat with
        | true =>
          obtain ⟨d5, e5, g5, o5⟩ := ex_add x1 (1 : Int)
          exact Zw.nx Zw.t13 [(.int .i64 (m1 : Int)), (.int .i64 d5)] [p3] (Zw.k2 _) ⟨Zw.hl rfl (by first | omega | assumption), Zw.hl rfl q1, hold_len (.atom _ _ rfl) (.atom _ _ rfl), hold_bool (.atom _ _ rfl) (.atom _ _ rfl) (op_lss_t q2), hold_idx v3 l3 (.atom _ _ rfl) (.atom _ _ rfl) (by omega) rfl, hold_op (.atom _ _ rfl) (.int _ _) o5 (.atom _ _ rfl), trivial⟩ Zw.i13 (rowsHold_cons (Elem.row v3 (VL.cons (vb z4) VL.nil)) rowsHold_nil) Zw.r13 (ih2 g5 (by constructor <;> omega) (by omega)) rfl rfl rfl rfl
        | false =>
          obtain ⟨d6, e6, g6, o6⟩ := ex_add x1 (1 : Int)
          exact Zw.nx Zw.t14 [(.int .i64 (m1 : Int)), (.int .i64 d6)] [p3] (Zw.k2 _) ⟨Zw.hl rfl (by first | omega | assumption), Zw.hl rfl q1, hold_len (.atom _ _ rfl) (.atom _ _ rfl), hold_bool (.atom _ _ rfl) (.atom _ _ rfl) (op_lss_t q2), hold_idx v3 l3 (.atom _ _ rfl) (.atom _ _ rfl) (by omega) rfl, hold_op (.atom _ _ rfl) (.int _ _) o6 (.atom _ _ rfl), trivial⟩ Zw.i14 (rowsHold_cons (Elem.row v3 (VL.cons (vb z4) VL.nil)) rowsHold_nil) Zw.r14 (Zw.n13 r0 h1 b1 g6 (by constructor <;> omega)) rfl rfl rfl rfl
      ·
        obtain ⟨d7, e7, g7, o7⟩ := ex_add x1 (1 : Int)
        exact Zw.nx Zw.t15 [(.int .i64 (m1 : Int)), (.int .i64 d7)] [] (Zw.k2 _) ⟨Zw.hl rfl (by first | omega | assumption), Zw.hl rfl q1, hold_len (.atom _ _ rfl) (.atom _ _ rfl), hold_bool (.atom _ _ rfl) (.atom _ _ rfl) (op_lss_f (Int.not_lt.1 q2)), hold_op (.atom _ _ rfl) (.int _ _) o7 (.atom _ _ rfl), trivial⟩ Zw.i15 rowsHold_nil Zw.r15 (Zw.n13 r0 h1 b1 g7 (by constructor <;> omega)) rfl rfl rfl rfl
    ·
      obtain ⟨d8, e8, g8, o8⟩ := ex_add x1 (1 : Int)
      exact Zw.nx Zw.t16 [(.int .i64 d8)] [] (Zw.k2 _) ⟨Zw.hl rfl (by first | omega | assumption), hold_bool (.atom _ _ rfl) (.int _ _) (op_lss_f (Int.not_lt.1 q1)), hold_op (.atom _ _ rfl) (.int _ _) o8 (.atom _ _ rfl), trivial⟩ Zw.i16 rowsHold_nil Zw.r16 (Zw.n13 r0 h1 b1 g8 (by constructor <;> omega)) rfl rfl rfl rfl
theorem Zw.n2 {W : World} {n0 : Int} {a1 : Option Addr} {m1 c1 : Nat} {f1q0 : Nat → Bool} (r0 : R64 n0) (h1 : SlcOk W a1 m1 c1 1 (fun i => [.bool (f1q0 i)])) (b1 : (m1 : Int) < 9223372036854775808) {x1 : Int} (g1x : R64 x1) (p11 : (0 ≤ x1 ∧ x1 ≤ 100)) : NdGood Tryz.prog Tryz.f6 8 Tryz.H0 W Zw.p2 Zw.d2 [(.slice a1 m1 c1), (.int .i64 x1)] :=
  (Zw.s2 r0 h1 b1 ((100 - x1).toNat + 1)) g1x p11 (by omega)
theorem Zw.n24 {W : World} {n0 : Int} {a1 : Option Addr} {m1 c1 : Nat} {f1q0 : Nat → Bool} (r0 : R64 n0) (h1 : SlcOk W a1 m1 c1 1 (fun i => [.bool (f1q0 i)])) (b1 : (m1 : Int) < 9223372036854775808) {x1 : Int} (g1x : R64 x1) (p11 : (0 ≤ x1 ∧ x1 ≤ 102)) : NdGood Tryz.prog Tryz.f6 8 Tryz.H0 W Zw.p2 Zw.d24 [(.slice a1 m1 c1), (.int .i64 x1)] := by
  have ⟨gl1, gh1⟩ := g1x
  have ⟨rl0, rh0⟩ := r0
  have ⟨p11l, p11h⟩ := p11
  exact Zw.fx Zw.t98 [] [] (Zw.k2 _) ⟨Zw.hl rfl (by first | omega | assumption), trivial⟩ Zw.i98 rfl rfl rowsHold_nil Zw.r98
theorem Zw.s14 {W : World} {n0 : Int} {a1 : Option Addr} {m1 c1 : Nat} {f1q0 : Nat → Bool} (r0 : R64 n0) (h1 : SlcOk W a1 m1 c1 1 (fun i => [.bool (f1q0 i)])) (b1 : (m1 : Int) < 9223372036854775808) : ∀ k : Nat, (∀ {x1 : Int} (g1x : R64 x1) (p11 : (0 ≤ x1 ∧ x1 ≤ 101)), (101 - x1) < k → NdGood Tryz.prog Tryz.f6 8 Tryz.H0 W Zw.p2 Zw.d14 [(.slice a1 m1 c1), (.int .i64 x1)]) := by
  intro k
  induction k with
  | zero =>
    intro x1 g1x p11 hk
    have ⟨gl1, gh1⟩ := g1x
    have ⟨rl0, rh0⟩ := r0
    have ⟨p11l, p11h⟩ := p11
    exfalso; omega
  | succ k ih =>
    have ih14 := @ih
    intro x1 g1x p11 hk
    have ⟨gl1, gh1⟩ := g1x
    have ⟨rl0, rh0⟩ := r0
    have ⟨p11l, p11h⟩ := p11
    by_cases q1 : x1 < (100 : Int)
    ·
      by_cases q2 : x1 < (m1 : Int)
      ·
        have l3 : (x1).toNat < m1 := by omega
        obtain ⟨p3, v3⟩ := h1.elem l3
        cases z4 : f1q0 (x1).toNat with
        | true =>
          obtain ⟨d5, e5, g5, o5⟩ := ex_add x1 (1 : Int)
          exact Zw.nx Zw.t58 [(.int .i64 (m1 : Int)), (.int .i64 d5)] [p3] (Zw.k2 _) ⟨Zw.hl rfl (by first | omega | assumption), Zw.hl rfl q1, hold_len (.atom _ _ rfl) (.atom _ _ rfl), hold_bool (.atom _ _ rfl) (.atom _ _ rfl) (op_lss_t q2), hold_idx v3 l3 (.atom _ _ rfl) (.atom _ _ rfl) (by omega) rfl, hold_op (.atom _ _ rfl) (.int _ _) o5 (.atom _ _ rfl), trivial⟩ Zw.i58 (rowsHold_cons (Elem.row v3 (VL.cons (vb z4) VL.nil)) rowsHold_nil) Zw.r58 (ih14 g5 (by constructor <;> omega) (by omega)) rfl rfl rfl rfl
        | false =>
          obtain ⟨d6, e6, g6, o6⟩ := ex_add x1 (1 : Int)
          exact Zw.nx Zw.t59 [(.int .i64 (m1 : Int)), (.int .i64 d6)] [p3] (Zw.k2 _) ⟨Zw.hl rfl (by first | omega | assumption), Zw.hl rfl q1, hold_len (.atom _ _ rfl) (.atom _ _ rfl), hold_bool (.atom _ _ rfl) (.atom _ _ rfl) (op_lss_t q2), hold_idx v3 l3 (.atom _ _ rfl) (.atom _ _ rfl) (by omega) rfl, hold_op (.atom _ _ rfl) (.int _ _) o6 (.atom _ _ rfl), trivial⟩ Zw.i59 (rowsHold_cons (Elem.row v3 (VL.cons (vb z4) VL.nil)) rowsHold_nil) Zw.r59 (Zw.n24 r0 h1 b1 g6 (by constructor <;> omega)) rfl rfl rfl rfl
      ·
        obtain ⟨d7, e7, g7, o7⟩ := ex_add x1 (1 : Int)
        exact Zw.nx Zw.t60 [(.int .i64 (m1 : Int)), (.int .i64 d7)] [] (Zw.k2 _) ⟨Zw.hl rfl (by first | omega | assumption), Zw.hl rfl q1, hold_len (.atom _ _ rfl) (.atom _ _ rfl), hold_bool (.atom _ _ rfl) (.atom _ _ rfl) (op_lss_f (Int.not_lt.1 q2)), hold_op (.atom _ _ rfl) (.int _ _) o7 (.atom _ _ rfl), trivial⟩ Zw.i60 rowsHold_nil Zw.r60 (Zw.n24 r0 h1 b1 g7 (by constructor <;> omega)) rfl rfl rfl rfl
    ·
      obtain ⟨d8, e8, g8, o8⟩ := ex_add x1 (1 : Int)
      exact Zw.nx Zw.t61 [(.int .i64 d8)] [] (Zw.k2 _) ⟨Zw.hl rfl (by first | omega | assumption), hold_bool (.atom _ _ rfl) (.int _ _) (op_lss_f (Int.not_lt.1 q1)), hold_op (.atom _ _ rfl) (.int _ _) o8 (.atom _ _ rfl), trivial⟩ Zw.i61 rowsHold_nil Zw.r61 (Zw.n24 r0 h1 b1 g8 (by constructor <;> omega)) rfl rfl rfl rfl
theorem Zw.n14 {W : World} {n0 : Int} {a1 : Option Addr} {m1 c1 : Nat} {f1q0 : Nat → Bool} (r0 : R64 n0) (h1 : SlcOk W a1 m1 c1 1 (fun i => [.bool (f1q0 i)])) (b1 : (m1 : Int) < 9223372036854775808) {x1 : Int} (g1x : R64 x1) (p11 : (0 ≤ x1 ∧ x1 ≤ 101)) : NdGood Tryz.prog Tryz.f6 8 Tryz.H0 W Zw.p2 Zw.d14 [(.slice a1 m1 c1), (.int .i64 x1)] :=
  (Zw.s14 r0 h1 b1 ((101 - x1).toNat + 1)) g1x p11 (by omega)
theorem Zw.s3 {W : World} {n0 : Int} {a1 : Option Addr} {m1 c1 : Nat} {f1q0 : Nat → Bool} (r0 : R64 n0) (h1 : SlcOk W a1 m1 c1 1 (fun i => [.bool (f1q0 i)])) (b1 : (m1 : Int) < 9223372036854775808) : ∀ k : Nat, (∀ {x1 : Int} (g1x : R64 x1) (p11 : (0 ≤ x1 ∧ x1 ≤ 100)), (100 - x1) < k → NdGood Tryz.prog Tryz.f6 8 Tryz.H0 W Zw.p2 Zw.d3 [(.slice a1 m1 c1), (.int .i64 x1)]) := by
  intro k
  induction k with
  | zero =>
    intro x1 g1x p11 hk
    have ⟨gl1, gh1⟩ := g1x
    have ⟨rl0, rh0⟩ := r0
    have ⟨p11l, p11h⟩ := p11
    exfalso; omega
  | succ k ih =>
    have ih3 := @ih
    intro x1 g1x p11 hk
    have ⟨gl1, gh1⟩ := g1x
    have ⟨rl0, rh0⟩ := r0
    have ⟨p11l, p11h⟩ := p11
    by_cases q1 : x1 < (100 : Int)
    ·
      by_cases q2 : x1 < (m1 : Int)
      ·
        have l3 : (x1).toNat < m1 := by omega
        obtain ⟨p3, v3⟩ := h1.elem l3
        cases z4 : f1q0 (x1).toNat with
        | true =>
          obtain ⟨d5, e5, g5, o5⟩ := ex_add x1 (1 : Int)
          exact Zw.nx Zw.t17 [(.int .i64 (m1 : Int)), (.int .i64 d5)] [p3] (Zw.k2 _) ⟨Zw.hl rfl (by first | omega | assumption), Zw.hl rfl q1, hold_len (.atom _ _ rfl) (.atom _ _ rfl), hold_bool (.atom _ _ rfl) (.atom _ _ rfl) (op_lss_t q2), hold_idx v3 l3 (.atom _ _ rfl) (.atom _ _ rfl) (by omega) rfl, hold_op (.atom _ _ rfl) (.int _ _) o5 (.atom _ _ rfl), trivial⟩ Zw.i17 (rowsHold_cons (Elem.row v3 (VL.cons (vb z4) VL.nil)) rowsHold_nil) Zw.r17 (ih3 g5 (by constructor <;> omega) (by omega)) rfl rfl rfl rfl
        | false =>
          obtain ⟨d6, e6, g6, o6⟩ := ex_add x1 (1 : Int)
          exact Zw.nx Zw.t18 [(.int .i64 (m1 : Int)), (.int .i64 d6)] [p3] (Zw.k2 _) ⟨Zw.hl rfl (by first | omega | assumption), Zw.hl rfl q1, hold_len (.atom _ _ rfl) (.atom _ _ rfl), hold_bool (.atom _ _ rfl) (.atom _ _ rfl) (op_lss_t q2), hold_idx v3 l3 (.atom _ _ rfl) (.atom _ _ rfl) (by omega) rfl, hold_op (.atom _ _ rfl) (.int _ _) o6 (.atom _ _ rfl), trivial⟩ Zw.i18 (rowsHold_cons (Elem.row v3 (VL.cons (vb z4) VL.nil)) rowsHold_nil) Zw.r18 (Zw.n14 r0 h1 b1 g6 (by constructor <;> omega)) rfl rfl rfl rfl
      ·
        obtain ⟨d7, e7, g7, o7⟩ := ex_add x1 (1 : Int)
        exact Zw.nx Zw.t19 [(.int .i64 (m1 : Int)), (.int .i64 d7)] [] (Zw.k2 _) ⟨Zw.hl rfl (by first | omega | assumption), Zw.hl rfl q1, hold_len (.atom _ _ rfl) (.atom _ _ rfl), hold_bool (.atom _ _ rfl) (.atom _ _ rfl) (op_lss_f (Int.not_lt.1 q2)), hold_op (.atom _ _ rfl) (.int _ _) o7 (.atom _ _ rfl), trivial⟩ Zw.i19 rowsHold_nil Zw.r19 (Zw.n14 r0 h1 b1 g7 (by constructor <;> omega)) rfl rfl rfl rfl
    ·
      obtain ⟨d8, e8, g8, o8⟩ := ex_add x1 (1 : Int)
      exact Zw.nx Zw.t20 [(.int .i64 d8)] [] (Zw.k2 _) ⟨Zw.hl rfl (by first | omega | assumption), hold_bool (.atom _ _ rfl) (.int _ _) (op_lss_f (Int.not_lt.1 q1)), hold_op (.atom _ _ rfl) (.int _ _) o8 (.atom _ _ rfl), trivial⟩ Zw.i20 rowsHold_nil Zw.r20 (Zw.n14 r0 h1 b1 g8 (by constructor <;> omega)) rfl rfl rfl rfl
theorem Zw.n3 {W : World} {n0 : Int} {a1 : Option Addr} {m1 c1 : Nat} {f1q0 : Nat → Bool} (r0 : R64 n0) (h1 : SlcOk W a1 m1 c1 1 (fun i => [.bool (f1q0 i)])) (b1 : (m1 : Int) < 9223372036854775808) {x1 : Int} (g1x : R64 x1) (p11 : (0 ≤ x1 ∧ x1 ≤ 100)) : NdGood Tryz.prog Tryz.f6 8 Tryz.H0 W Zw.p2 Zw.d3 [(.slice a1 m1 c1), (.int .i64 x1)] :=
  (Zw.s3 r0 h1 b1 ((100 - x1).toNat + 1)) g1x p11 (by omega)
theorem Zw.n34 {W : World} {n0 : Int} {a1 : Option Addr} {m1 c1 : Nat} {f1q0 : Nat → Bool} (r0 : R64 n0) (h1 : SlcOk W a1 m1 c1 1 (fun i => [.bool (f1q0 i)])) (b1 : (m1 : Int) < 9223372036854775808) {x1 : Int} (g1x : R64 x1) (p11 : (0 ≤ x1 ∧ x1 ≤ 103)) : NdGood Tryz.prog Tryz.f6 8 Tryz.H0 W Zw.p2 Zw.d34 [(.slice a1 m1 c1), (.int .i64 x1)] := by
  have ⟨gl1, gh1⟩ := g1x
  have ⟨rl0, rh0⟩ := r0
  have ⟨p11l, p11h⟩ := p11
  exact Zw.fx Zw.t135 [] [] (Zw.k2 _) ⟨Zw.hl rfl (by first | omega | assumption), trivial⟩ Zw.i135 rfl rfl rowsHold_nil Zw.r135
theorem Zw.s25 {W : World} {n0 : Int} {a1 : Option Addr} {m1 c1 : Nat} {f1q0 : Nat → Bool} (r0 : R64 n0) (h1 : SlcOk W a1 m1 c1 1 (fun i => [.bool (f1q0 i)])) (b1 : (m1 : Int) < 9223372036854775808) : ∀ k : Nat, (∀ {x1 : Int} (g1x : R64 x1) (p11 : (0 ≤ x1 ∧ x1 ≤ 102)), (102 - x1) < k → NdGood Tryz.prog Tryz.f6 8 Tryz.H0 W Zw.p2 Zw.d25 [(.slice a1 m1 c1), (.int .i64 x1)]) := by
  intro k
  induction k with
  | zero =>
    intro x1 g1x p11 hk
    have ⟨gl1, gh1⟩ := g1x
    have ⟨rl0, rh0⟩ := r0
    have ⟨p11l, p11h⟩ := p11
    exfalso; omega
  | succ k ih =>
    have ih25 := @ih
    intro x1 g1x p11 hk
    have ⟨gl1, gh1⟩ := g1x
    have ⟨rl0, rh0⟩ := r0
    have ⟨p11l, p11h⟩ := p11
    by_cases q1 : x1 < (100 : Int)
    ·
      by_cases q2 : x1 < (m1 : Int)
      ·
        have l3 : (x1).toNat < m1 := by omega
        obtain ⟨p3, v3⟩ := h1.elem l3
        cases z4 : f1q0 (x1).toNat with
        | true =>
          obtain ⟨d5, e5, g5, o5⟩ := ex_add x1 (1 : Int)
          exact Zw.nx Zw.t99 [(.int .i64 (m1 : Int)), (.int .i64 d5)] [p3] (Zw.k2 _) ⟨Zw.hl rfl (by first | omega | assumption), Zw.hl rfl q1, hold_len (.atom _ _ rfl) (.atom _ _ rfl), hold_bool (.atom _ _ rfl) (.atom _ _ rfl) (op_lss_t q2), hold_idx v3 l3 (.atom _ _ rfl) (.atom _ _ rfl) (by omega) rfl, hold_op (.atom _ _ rfl) (.int _ _) o5 (.atom _ _ rfl), trivial⟩ Zw.i99 (rowsHold_cons (Elem.row v3 (VL.cons (vb z4) VL.nil)) rowsHold_nil) Zw.r99 (ih25 g5 (by constructor <;> omega) (by omega)) rfl rfl rfl rfl
        | false =>
          obtain ⟨d6, e6, g6, o6⟩ := ex_add x1 (1 : Int)
          exact Zw.nx Zw.t100 [(.int .i64 (m1 : Int)), (.int .i64 d6)] [p3] (Zw.k2 _) ⟨Zw.hl rfl (by first | omega | assumption), Zw.hl rfl q1, hold_len (.atom _ _ rfl) (.atom _ _ rfl), hold_bool (.atom _ _ rfl) (.atom _ _ rfl) (op_lss_t q2), hold_idx v3 l3 (.atom _ _ rfl) (.atom _ _ rfl) (by omega) rfl, hold_op (.atom _ _ rfl) (.int _ _) o6 (.atom _ _ rfl), trivial⟩ Zw.i100 (rowsHold_cons (Elem.row v3 (VL.cons (vb z4) VL.nil)) rowsHold_nil) Zw.r100 (Zw.n34 r0 h1 b1 g6 (by constructor <;> omega)) rfl rfl rfl rfl
      ·
        obtain ⟨d7, e7, g7, o7⟩ := ex_add x1 (1 : Int)
        exact Zw.nx Zw.t101 [(.int .i64 (m1 : Int)), (.int .i64 d7)] [] (Zw.k2 _) ⟨Zw.hl rfl (by first | omega | assumption), Zw.hl rfl q1, hold_len (.atom _ _ rfl) (.atom _ _ rfl), hold_bool (.atom _ _ rfl) (.atom _ _ rfl) (op_lss_f (Int.not_lt.1 q2)), hold_op (.atom _ _ rfl) (.int _ _) o7 (.atom _ _ rfl), trivial⟩ Zw.i101 rowsHold_nil Zw.r101 (Zw.n34 r0 h1 b1 g7 (by constructor <;> omega)) rfl rfl rfl rfl
    ·
      obtain ⟨d8, e8, g8, o8⟩ := ex_add x1 (1 : Int)
      exact Zw.nx Zw.t102 [(.int .i64 d8)] [] (Zw.k2 _) ⟨Zw.hl rfl (by first | omega | assumption), hold_bool (.atom _ _ rfl) (.int _ _) (op_lss_f (Int.not_lt.1 q1)), hold_op (.atom _ _ rfl) (.int _ _) o8 (.atom _ _ rfl), trivial⟩ Zw.i102 rowsHold_nil Zw.r102 (Zw.n34 r0 h1 b1 g8 (by constructor <;> omega)) rfl rfl rfl rfl
theorem Zw.n25 {W : World} {n0 : Int} {a1 : Option Addr} {m1 c1 : Nat} {f1q0 : Nat → Bool} (r0 : R64 n0) (h1 : SlcOk W a1 m1 c1 1 (fun i => [.bool (f1q0 i)])) (b1 : (m1 : Int) < 9223372036854775808) {x1 : Int} (g1x : R64 x1) (p11 : (0 ≤ x1 ∧ x1 ≤ 102)) : NdGood Tryz.prog Tryz.f6 8 Tryz.H0 W Zw.p2 Zw.d25 [(.slice a1 m1 c1), (.int .i64 x1)] :=
  (Zw.s25 r0 h1 b1 ((102 - x1).toNat + 1)) g1x p11 (by omega)
theorem Zw.s15 {W : World} {n0 : Int} {a1 : Option Addr} {m1 c1 : Nat} {f1q0 : Nat → Bool} (r0 : R64 n0) (h1 : SlcOk W a1 m1 c1 1 (fun i => [.bool (f1q0 i)])) (b1 : (m1 : Int) < 9223372036854775808) : ∀ k : Nat, (∀ {x1 : Int} (g1x : R64 x1) (p11 : (0 ≤ x1 ∧ x1 ≤ 101)), (101 - x1) < k → NdGood Tryz.prog Tryz.f6 8 Tryz.H0 W Zw.p2 Zw.d15 [(.slice a1 m1 c1), (.int .i64 x1)]) := by
  intro k
  induction k with
  | zero =>
    intro x1 g1x p11 hk
    have ⟨gl1, gh1⟩ := g1x
    have ⟨rl0, rh0⟩ := r0
    have ⟨p11l, p11h⟩ := p11
    exfalso; omega
  | succ k ih =>
    have ih15 := @ih
    intro x1 g1x p11 hk
    have ⟨gl1, gh1⟩ := g1x
    have ⟨rl0, rh0⟩ := r0
    have ⟨p11l, p11h⟩ := p11
    by_cases q1 : x1 < (100 : Int)
    ·
      by_cases q2 : x1 < (m1 : Int)
      ·
        have l3 : (x1).toNat < m1 := by omega
        obtain ⟨p3, v3⟩ := h1.elem l3
        cases z4 : f1q0 (x1).toNat with
        | true =>
          obtain ⟨d5, e5, g5, o5⟩ := ex_add x1 (1 : Int)
          exact Zw.nx Zw.t62 [(.int .i64 (m1 : Int)), (.int .i64 d5)] [p3] (Zw.k2 _) ⟨Zw.hl rfl (by first | omega | assumption), Zw.hl rfl q1, hold_len (.atom _ _ rfl) (.atom _ _ rfl), hold_bool (.atom _ _ rfl) (.atom _ _ rfl) (op_lss_t q2), hold_idx v3 l3 (.atom _ _ rfl) (.atom _ _ rfl) (by omega) rfl, hold_op (.atom _ _ rfl) (.int _ _) o5 (.atom _ _ rfl), trivial⟩ Zw.i62 (rowsHold_cons (Elem.row v3 (VL.cons (vb z4) VL.nil)) rowsHold_nil) Zw.r62 (ih15 g5 (by constructor <;> omega) (by omega)) rfl rfl rfl rfl
        | false =>
          obtain ⟨d6, e6, g6, o6⟩ := ex_add x1 (1 : Int)
          exact Zw.nx Zw.t63 [(.int .i64 (m1 : Int)), (.int .i64 d6)] [p3] (Zw.k2 _) ⟨Zw.hl rfl (by first | omega | assumption), Zw.hl rfl q1, hold_len (.atom _ _ rfl) (.atom _ _ rfl), hold_bool (.atom _ _ rfl) (.atom _ _ rfl) (op_lss_t q2), hold_idx v3 l3 (.atom _ _ rfl) (.atom _ _ rfl) (by omega) rfl, hold_op (.atom _ _ rfl) (.int _ _) o6 (.atom _ _ rfl), trivial⟩ Zw.i63 (rowsHold_cons (Elem.row v3 (VL.cons (vb z4) VL.nil)) rowsHold_nil) Zw.r63 (Zw.n25 r0 h1 b1 g6 (by constructor <;> omega)) rfl rfl rfl rfl
      ·
        obtain ⟨d7, e7, g7, o7⟩ := ex_add x1 (1 : Int)
        exact Zw.nx Zw.t64 [(.int .i64 (m1 : Int)), (.int .i64 d7)] [] (Zw.k2 _) ⟨Zw.hl rfl (by first | omega | assumption), Zw.hl rfl q1, hold_len (.atom _ _ rfl) (.atom _ _ rfl), hold_bool (.atom _ _ rfl) (.atom _ _ rfl) (op_lss_f (Int.not_lt.1 q2)), hold_op (.atom _ _ rfl) (.int _ _) o7 (.atom _ _ rfl), trivial⟩ Zw.i64 rowsHold_nil Zw.r64 (Zw.n25 r0 h1 b1 g7 (by constructor <;> omega)) rfl rfl rfl rfl
    ·
      obtain ⟨d8, e8, g8, o8⟩ := ex_add x1 (1 : Int)
      exact Zw.nx Zw.t65 [(.int .i64 d8)] [] (Zw.k2 _) ⟨Zw.hl rfl (by first | omega | assumption), hold_bool (.atom _ _ rfl) (.int _ _) (op_lss_f (Int.not_lt.1 q1)), hold_op (.atom _ _ rfl) (.int _ _) o8 (.atom _ _ rfl), trivial⟩ Zw.i65 rowsHold_nil Zw.r65 (Zw.n25 r0 h1 b1 g8 (by constructor <;> omega)) rfl rfl rfl rfl
theorem Zw.n15 {W : World} {n0 : Int} {a1 : Option Addr} {m1 c1 : Nat} {f1q0 : Nat → Bool} (r0 : R64 n0) (h1 : SlcOk W a1 m1 c1 1 (fun i => [.bool (f1q0 i)])) (b1 : (m1 : Int) < 9223372036854775808) {x1 : Int} (g1x : R64 x1) (p11 : (0 ≤ x1 ∧ x1 ≤ 101)) : NdGood Tryz.prog Tryz.f6 8 Tryz.H0 W Zw.p2 Zw.d15 [(.slice a1 m1 c1), (.int .i64 x1)] :=
  (Zw.s15 r0 h1 b1 ((101 - x1).toNat + 1)) g1x p11 (by omega)
theorem Zw.s4 {W : World} {n0 : Int} {a1 : Option Addr} {m1 c1 : Nat} {f1q0 : Nat → Bool} (r0 : R64 n0) (h1 : SlcOk W a1 m1 c1 1 (fun i => [.bool (f1q0 i)])) (b1 : (m1 : Int) < 9223372036854775808) : ∀ k : Nat, (∀ {x1 : Int} (g1x : R64 x1) (p11 : (0 ≤ x1 ∧ x1 ≤ 100)), (100 - x1) < k → NdGood Tryz.prog Tryz.f6 8 Tryz.H0 W Zw.p2 Zw.d4 [(.slice a1 m1 c1), (.int .i64 x1)]) := by
  intro k
  induction k with
  | zero =>
    intro x1 g1x p11 hk
    have ⟨gl1, gh1⟩ := g1x
    have ⟨rl0, rh0⟩ := r0
    have ⟨p11l, p11h⟩ := p11
    exfalso; omega
  | succ k ih =>
    have ih4 := @ih
    intro x1 g1x p11 hk
    have ⟨gl1, gh1⟩ := g1x
    have ⟨rl0, rh0⟩ := r0
    have ⟨p11l, p11h⟩ := p11
    by_cases q1 : x1 < (100 : Int)
    ·
      by_cases q2 : x1 < (m1 : Int)
      ·
        have l3 : (x1).toNat < m1 := by omega
        obtain ⟨p3, v3⟩ := h1.elem l3
        cases z4 : f1q0 (x1).toNat with
        | true =>
          obtain ⟨d5, e5, g5, o5⟩ := ex_add x1 (1 : Int)
          exact Zw.nx Zw.t21 [(.int .i64 (m1 : Int)), (.int .i64 d5)] [p3] (Zw.k2 _) ⟨Zw.hl rfl (by first | omega | assumption), Zw.hl rfl q1, hold_len (.atom _ _ rfl) (.atom _ _ rfl), hold_bool (.atom _ _ rfl) (.atom _ _ rfl) (op_lss_t q2), hold_idx v3 l3 (.atom _ _ rfl) (.atom _ _ rfl) (by omega) rfl, hold_op (.atom _ _ rfl) (.int _ _) o5 (.atom _ _ rfl), trivial⟩ Zw.i21 (rowsHold_cons (Elem.row v3 (VL.cons (vb z4) VL.nil)) rowsHold_nil) Zw.r21 (ih4 g5 (by constructor <;> omega) (by omega)) rfl rfl rfl rfl
        | false =>
          obtain ⟨d6, e6, g6, o6⟩ := ex_add x1 (1 : Int)
          exact Zw.nx Zw.t22 [(.int .i64 (m1 : Int)), (.int .i64 d6)] [p3] (Zw.k2 _) ⟨Zw.hl rfl (by first | omega | assumption), Zw.hl rfl q1, hold_len (.atom _ _ rfl) (.atom _ _ rfl), hold_bool (.atom _ _ rfl) (.atom _ _ rfl) (op_lss_t q2), hold_idx v3 l3 (.atom _ _ rfl) (.atom _ _ rfl) (by omega) rfl, hold_op (.atom _ _ rfl) (.int _ _) o6 (.atom _ _ rfl), trivial⟩ Zw.i22 (rowsHold_cons (Elem.row v3 (VL.cons (vb z4) VL.nil)) rowsHold_nil) Zw.r22 (Zw.n15 r0 h1 b1 g6 (by constructor <;> omega)) rfl rfl rfl rfl
      ·
        obtain ⟨d7, e7, g7, o7⟩ := ex_add x1 (1 : Int)
        exact Zw.nx Zw.t23 [(.int .i64 (m1 : Int)), (.int .i64 d7)] [] (Zw.k2 _) ⟨Zw.hl rfl (by first | omega | assumption), Zw.hl rfl q1, hold_len (.atom _ _ rfl) (.atom _ _ rfl), hold_bool (.atom _ _ rfl) (.atom _ _ rfl) (op_lss_f (Int.not_lt.1 q2)), hold_op (.atom _ _ rfl) (.int _ _) o7 (.atom _ _ rfl), trivial⟩ Zw.i23 rowsHold_nil Zw.r23 (Zw.n15 r0 h1 b1 g7 (by constructor <;> omega)) rfl rfl rfl rfl
    ·
      obtain ⟨d8, e8, g8, o8⟩ := ex_add x1 (1 : Int)
      exact Zw.nx Zw.t24 [(.int .i64 d8)] [] (Zw.k2 _) ⟨Zw.hl rfl (by first | omega | assumption), hold_bool (.atom _ _ rfl) (.int _ _) (op_lss_f (Int.not_lt.1 q1)), hold_op (.atom _ _ rfl) (.int _ _) o8 (.atom _ _ rfl), trivial⟩ Zw.i24 rowsHold_nil Zw.r24 (Zw.n15 r0 h1 b1 g8 (by constructor <;> omega)) rfl rfl rfl rfl
theorem Zw.n4 {W : World} {n0 : Int} {a1 : Option Addr} {m1 c1 : Nat} {f1q0 : Nat → Bool} (r0 : R64 n0) (h1 : SlcOk W a1 m1 c1 1 (fun i => [.bool (f1q0 i)])) (b1 : (m1 : Int) < 9223372036854775808) {x1 : Int} (g1x : R64 x1) (p11 : (0 ≤ x1 ∧ x1 ≤ 100)) : NdGood Tryz.prog Tryz.f6 8 Tryz.H0 W Zw.p2 Zw.d4 [(.slice a1 m1 c1), (.int .i64 x1)] :=
  (Zw.s4 r0 h1 b1 ((100 - x1).toNat + 1)) g1x p11 (by omega)
theorem Zw.n43 {W : World} {n0 : Int} {a1 : Option Addr} {m1 c1 : Nat} {f1q0 : Nat → Bool} (r0 : R64 n0) (h1 : SlcOk W a1 m1 c1 1 (fun i => [.bool (f1q0 i)])) (b1 : (m1 : Int) < 9223372036854775808) {x1 : Int} (g1x : R64 x1) (p11 : (0 ≤ x1 ∧ x1 ≤ 104)) : NdGood Tryz.prog Tryz.f6 8 Tryz.H0 W Zw.p2 Zw.d43 [(.slice a1 m1 c1), (.int .i64 x1)] := by
  have ⟨gl1, gh1⟩ := g1x
  have ⟨rl0, rh0⟩ := r0
  have ⟨p11l, p11h⟩ := p11
  exact Zw.fx Zw.t168 [] [] (Zw.k2 _) ⟨Zw.hl rfl (by first | omega | assumption), trivial⟩ Zw.i168 rfl rfl rowsHold_nil Zw.r168
theorem Zw.s35 {W : World} {n0 : Int} {a1 : Option Addr} {m1 c1 : Nat} {f1q0 : Nat → Bool} (r0 : R64 n0) (h1 : SlcOk W a1 m1 c1 1 (fun i => [.bool (f1q0 i)])) (b1 : (m1 : Int) < 9223372036854775808) : ∀ k : Nat, (∀ {x1 : Int} (g1x : R64 x1) (p11 : (0 ≤ x1 ∧ x1 ≤ 103)), (103 - x1) < k → NdGood Tryz.prog Tryz.f6 8 Tryz.H0 W Zw.p2 Zw.d35 [(.slice a1 m1 c1), (.int .i64 x1)]) := by
  intro k
  induction k with
  | zero =>
    intro x1 g1x p11 hk
    have ⟨gl1, gh1⟩ := g1x
    have ⟨rl0, rh0⟩ := r0
    have ⟨p11l, p11h⟩ := p11
    exfalso; omega
  | succ k ih =>
    have ih35 := @ih
    intro x1 g1x p11 hk
    have ⟨gl1, gh1⟩ := g1x
    have ⟨rl0, rh0⟩ := r0
    have ⟨p11l, p11h⟩ := p11
    by_cases q1 : x1 < (100 : Int)
    ·
      by_cases q2 : x1 < (m1 : Int)
      ·
        have l3 : (x1).toNat < m1 := by omega
        obtain ⟨p3, v3⟩ := h1.elem l3
        cases z4 : f1q0 (x1).toNat with
        | true =>
          obtain ⟨d5, e5, g5, o5⟩ := ex_add x1 (1 : Int)
          exact Zw.nx Zw.t136 [(.int .i64 (m1 : Int)), (.int .i64 d5)] [p3] (Zw.k2 _) ⟨Zw.hl rfl (by first | omega | assumption), Zw.hl rfl q1, hold_len (.atom _ _ rfl) (.atom _ _ rfl), hold_bool (.atom _ _ rfl) (.atom _ _ rfl) (op_lss_t q2), hold_idx v3 l3 (.atom _ _ rfl) (.atom _ _ rfl) (by omega) rfl, hold_op (.atom _ _ rfl) (.int _ _) o5 (.atom _ _ rfl), trivial⟩ Zw.i136 (rowsHold_cons (Elem.row v3 (VL.cons (vb z4) VL.nil)) rowsHold_nil) Zw.r136 (ih35 g5 (by constructor <;> omega) (by omega)) rfl rfl rfl rfl
        | false =>
          obtain ⟨d6, e6, g6, o6⟩ := ex_add x1 (1 : Int)
          exact Zw.nx Zw.t137 [(.int .i64 (m1 : Int)), (.int .i64 d6)] [p3] (Zw.k2 _) ⟨Zw.hl rfl (by first | omega | assumption), Zw.hl rfl q1, hold_len (.atom _ _ rfl) (.atom _ _ rfl), hold_bool (.atom _ _ rfl) (.atom _ _ rfl) (op_lss_t q2), hold_idx v3 l3 (.atom _ _ rfl) (.atom _ _ rfl) (by omega) rfl, hold_op (.atom _ _ rfl) (.int _ _) o6 (.atom _ _ rfl), trivial⟩ Zw.i137 (rowsHold_cons (Elem.row v3 (VL.cons (vb z4) VL.nil)) rowsHold_nil) Zw.r137 (Zw.n43 r0 h1 b1 g6 (by constructor <;> omega)) rfl rfl rfl rfl
      ·
        obtain ⟨d7, e7, g7, o7⟩ := ex_add x1 (1 : Int)
        exact Zw.nx Zw.t138 [(.int .i64 (m1 : Int)), (.int .i64 d7)] [] (Zw.k2 _) ⟨Zw.hl rfl (by first | omega | assumption), Zw.hl rfl q1, hold_len (.atom _ _ rfl) (.atom _ _ rfl), hold_bool (.atom _ _ rfl) (.atom _ _ rfl) (op_lss_f (Int.not_lt.1 q2)), hold_op (.atom _ _ rfl) (.int _ _) o7 (.atom _ _ rfl), trivial⟩ Zw.i138 rowsHold_nil Zw.r138 (Zw.n43 r0 h1 b1 g7 (by constructor <;> omega)) rfl rfl rfl rfl
    ·
      obtain ⟨d8, e8, g8, o8⟩ := ex_add x1 (1 : Int)
      exact Zw.nx Zw.t139 [(.int .i64 d8)] [] (Zw.k2 _) ⟨Zw.hl rfl (by first | omega | assumption), hold_bool (.atom _ _ rfl) (.int _ _) (op_lss_f (Int.not_lt.1 q1)), hold_op (.atom _ _ rfl) (.int _ _) o8 (.atom _ _ rfl), trivial⟩ Zw.i139 rowsHold_nil Zw.r139 (Zw.n43 r0 h1 b1 g8 (by constructor <;> omega)) rfl rfl rfl rfl
theorem Zw.n35 {W : World} {n0 : Int} {a1 : Option Addr} {m1 c1 : Nat} {f1q0 : Nat → Bool} (r0 : R64 n0) (h1 : SlcOk W a1 m1 c1 1 (fun i => [.bool (f1q0 i)])) (b1 : (m1 : Int) < 9223372036854775808) {x1 : Int} (g1x : R64 x1) (p11 : (0 ≤ x1 ∧ x1 ≤ 103)) : NdGood Tryz.prog Tryz.f6 8 Tryz.H0 W Zw.p2 Zw.d35 [(.slice a1 m1 c1), (.int .i64 x1)] :=
  (Zw.s35 r0 h1 b1 ((103 - x1).toNat + 1)) g1x p11 (by omega)
theorem Zw.s26 {W : World} {n0 : Int} {a1 : Option Addr} {m1 c1 : Nat} {f1q0 : Nat → Bool} (r0 : R64 n0) (h1 : SlcOk W a1 m1 c1 1 (fun i => [.bool (f1q0 i)])) (b1 : (m1 : Int) < 9223372036854775808) : ∀ k : Nat, (∀ {x1 : Int} (g1x : R64 x1) (p11 : (0 ≤ x1 ∧ x1 ≤ 102)), (102 - x1) < k → NdGood Tryz.prog Tryz.f6 8 Tryz.H0 W Zw.p2 Zw.d26 [(.slice a1 m1 c1), (.int .i64 x1)]) := by
  intro k
  induction k with
  | zero =>
    intro x1 g1x p11 hk
    have ⟨gl1, gh1⟩ := g1x
    have ⟨rl0, rh0⟩ := r0
    have ⟨p11l, p11h⟩ := p11
    exfalso; omega
  | succ k ih =>
    have ih26 := @ih
    intro x1 g1x p11 hk
    have ⟨gl1, gh1⟩ := g1x
    have ⟨rl0, rh0⟩ := r0
    have ⟨p11l, p11h⟩ := p11
    by_cases q1 : x1 < (100 : Int)
    ·
      by_cases q2 : x1 < (m1 : Int)
      ·
        have l3 : (x1).toNat < m1 := by omega
        obtain ⟨p3, v3⟩ := h1.elem l3
        cases z4 : f1q0 (x1).toNat with
        | true =>
          obtain ⟨d5, e5, g5, o5⟩ := ex_add x1 (1 : Int)
          exact Zw.nx Zw.t103 [(.int .i64 (m1 : Int)), (.int .i64 d5)] [p3] (Zw.k2 _) ⟨Zw.hl rfl (by first | omega | assumption), Zw.hl rfl q1, hold_len (.atom _ _ rfl) (.atom _ _ rfl), hold_bool (.atom _ _ rfl) (.atom _ _ rfl) (op_lss_t q2), hold_idx v3 l3 (.atom _ _ rfl) (.atom _ _ rfl) (by omega) rfl, hold_op (.atom _ _ rfl) (.int _ _) o5 (.atom _ _ rfl), trivial⟩ Zw.i103 (rowsHold_cons (Elem.row v3 (VL.cons (vb z4) VL.nil)) rowsHold_nil) Zw.r103 (ih26 g5 (by constructor <;> omega) (by omega)) rfl rfl rfl rfl
        | false =>
          obtain ⟨d6, e6, g6, o6⟩ := ex_add x1 (1 : Int)
          exact Zw.nx Zw.t104 [(.int .i64 (m1 : Int)), (.int .i64 d6)] [p3] (Zw.k2 _) ⟨Zw.hl rfl (by first | omega | assumption), Zw.hl rfl q1, hold_len (.atom _ _ rfl) (.atom _ _ rfl), hold_bool (.atom _ _ rfl) (.atom _ _ rfl) (op_lss_t q2), hold_idx v3 l3 (.atom _ _ rfl) (.atom _ _ rfl) (by omega) rfl, hold_op (.atom _ _ rfl) (.int _ _) o6 (.atom _ _ rfl), trivial⟩ Zw.i104 (rowsHold_cons (Elem.row v3 (VL.cons (vb z4) VL.nil)) rowsHold_nil) Zw.r104 (Zw.n35 r0 h1 b1 g6 (by constructor <;> omega)) rfl rfl rfl rfl
      ·
        obtain ⟨d7, e7, g7, o7⟩ := ex_add x1 (1 : Int)
        exact Zw.nx Zw.t105 [(.int .i64 (m1 : Int)), (.int .i64 d7)] [] (Zw.k2 _) ⟨Zw.hl rfl (by first | omega | assumption), Zw.hl rfl q1, hold_len (.atom _ _ rfl) (.atom _ _ rfl), hold_bool (.atom _ _ rfl) (.atom _ _ rfl) (op_lss_f (Int.not_lt.1 q2)), hold_op (.atom _ _ rfl) (.int _ _) o7 (.atom _ _ rfl), trivial⟩ Zw.i105 rowsHold_nil Zw.r105 (Zw.n35 r0 h1 b1 g7 (by constructor <;> omega)) rfl rfl rfl rfl
    ·
      obtain ⟨d8, e8, g8, o8⟩ := ex_add x1 (1 : Int)
      exact Zw.nx Zw.t106 [(.int .i64 d8)] [] (Zw.k2 _) ⟨Zw.hl rfl (by first | omega | assumption), hold_bool (.atom _ _ rfl) (.int _ _) (op_lss_f (Int.not_lt.1 q1)), hold_op (.atom _ _ rfl) (.int _ _) o8 (.atom _ _ rfl), trivial⟩ Zw.i106 rowsHold_nil Zw.r106 (Zw.n35 r0 h1 b1 g8 (by constructor <;> omega)) rfl rfl rfl rfl
theorem Zw.n26 {W : World} {n0 : Int} {a1 : Option Addr} {m1 c1 : Nat} {f1q0 : Nat → Bool} (r0 : R64 n0) (h1 : SlcOk W a1 m1 c1 1 (fun i => [.bool (f1q0 i)])) (b1 : (m1 : Int) < 9223372036854775808) {x1 : Int} (g1x : R64 x1) (p11 : (0 ≤ x1 ∧ x1 ≤ 102)) : NdGood Tryz.prog Tryz.f6 8 Tryz.H0 W Zw.p2 Zw.d26 [(.slice a1 m1 c1), (.int .i64 x1)] :=
  (Zw.s26 r0 h1 b1 ((102 - x1).toNat + 1)) g1x p11 (by omega)
theorem Zw.s16 {W : World} {n0 : Int} {a1 : Option Addr} {m1 c1 : Nat} {f1q0 : Nat → Bool} (r0 : R64 n0) (h1 : SlcOk W a1 m1 c1 1 (fun i => [.bool (f1q0 i)])) (b1 : (m1 : Int) < 9223372036854775808) : ∀ k : Nat, (∀ {x1 : Int} (g1x : R64 x1) (p11 : (0 ≤ x1 ∧ x1 ≤ 101)), (101 - x1) < k → NdGood Tryz.prog Tryz.f6 8 Tryz.H0 W Zw.p2 Zw.d16 [(.slice a1 m1 c1), (.int .i64 x1)]) := by
  intro k
  induction k with
  | zero =>
    intro x1 g1x p11 hk
    have ⟨gl1, gh1⟩ := g1x
    have ⟨rl0, rh0⟩ := r0
    have ⟨p11l, p11h⟩ := p11
    exfalso; omega
  | succ k ih =>
    have ih16 := @ih
    intro x1 g1x p11 hk
    have ⟨gl1, gh1⟩ := g1x
    have ⟨rl0, rh0⟩ := r0
    have ⟨p11l, p11h⟩ := p11
    by_cases q1 : x1 < (100 : Int)
    ·
      by_cases q2 : x1 < (m1 : Int)
      ·
        have l3 : (x1).toNat < m1 := by omega
        obtain ⟨p3, v3⟩ := h1.elem l3
        cases z4 : f1q0 (x1).toNat with
        | true =>
          obtain ⟨d5, e5, g5, o5⟩ := ex_add x1 (1 : Int)
          exact Zw.nx Zw.t66 [(.int .i64 (m1 : Int)), (.int .i64 d5)] [p3] (Zw.k2 _) ⟨Zw.hl rfl (by first | omega | assumption), Zw.hl rfl q1, hold_len (.atom _ _ rfl) (.atom _ _ rfl), hold_bool (.atom _ _ rfl) (.atom _ _ rfl) (op_lss_t q2), hold_idx v3 l3 (.atom _ _ rfl) (.atom _ _ rfl) (by omega) rfl, hold_op (.atom _ _ rfl) (.int _ _) o5 (.atom _ _ rfl), trivial⟩ Zw.i66 (rowsHold_cons (Elem.row v3 (VL.cons (vb z4) VL.nil)) rowsHold_nil) Zw.r66 (ih16 g5 (by constructor <;> omega) (by omega)) rfl rfl rfl rfl
        | false =>
          obtain ⟨d6, e6, g6, o6⟩ := ex_add x1 (1 : Int)
          exact Zw.nx Zw.t67 [(.int .i64 (m1 : Int)), (.int .i64 d6)] [p3] (Zw.k2 _) ⟨Zw.hl rfl (by first | omega | assumption), Zw.hl rfl q1, hold_len (.atom _ _ rfl) (.atom _ _ rfl), hold_bool (.atom _ _ rfl) (.atom _ _ rfl) (op_lss_t q2), hold_idx v3 l3 (.atom _ _ rfl) (.atom _ _ rfl) (by omega) rfl, hold_op (.atom _ _ rfl) (.int _ _) o6 (.atom _ _ rfl), trivial⟩ Zw.i67 (rowsHold_cons (Elem.row v3 (VL.cons (vb z4) VL.nil)) rowsHold_nil) Zw.r67 (Zw.n26 r0 h1 b1 g6 (by constructor <;> omega)) rfl rfl rfl rfl
      ·
        obtain ⟨d7, e7, g7, o7⟩ := ex_add x1 (1 : Int)
        exact Zw.nx Zw.t68 [(.int .i64 (m1 : Int)), (.int .i64 d7)] [] (Zw.k2 _) ⟨Zw.hl rfl (by first | omega | assumption), Zw.hl rfl q1, hold_len (.atom _ _ rfl) (.atom _ _ rfl), hold_bool (.atom _ _ rfl) (.atom _ _ rfl) (op_lss_f (Int.not_lt.1 q2)), hold_op (.atom _ _ rfl) (.int _ _) o7 (.atom _ _ rfl), trivial⟩ Zw.i68 rowsHold_nil Zw.r68 (Zw.n26 r0 h1 b1 g7 (by constructor <;> omega)) rfl rfl rfl rfl
    ·
      obtain ⟨d8, e8, g8, o8⟩ := ex_add x1 (1 : Int)
      exact Zw.nx Zw.t69 [(.int .i64 d8)] [] (Zw.k2 _) ⟨Zw.hl rfl (by first | omega | assumption), hold_bool (.atom _ _ rfl) (.int _ _) (op_lss_f (Int.not_lt.1 q1)), hold_op (.atom _ _ rfl) (.int _ _) o8 (.atom _ _ rfl), trivial⟩ Zw.i69 rowsHold_nil Zw.r69 (Zw.n26 r0 h1 b1 g8 (by constructor <;> omega)) rfl rfl rfl rfl
theorem Zw.n16 {W : World} {n0 : Int} {a1 : Option Addr} {m1 c1 : Nat} {f1q0 : Nat → Bool} (r0 : R64 n0) (h1 : SlcOk W a1 m1 c1 1 (fun i => [.bool (f1q0 i)])) (b1 : (m1 : Int) < 9223372036854775808) {x1 : Int} (g1x : R64 x1) (p11 : (0 ≤ x1 ∧ x1 ≤ 101)) : NdGood Tryz.prog Tryz.f6 8 Tryz.H0 W Zw.p2 Zw.d16 [(.slice a1 m1 c1), (.int .i64 x1)] :=
  (Zw.s16 r0 h1 b1 ((101 - x1).toNat + 1)) g1x p11 (by omega)
theorem Zw.s5 {W : World} {n0 : Int} {a1 : Option Addr} {m1 c1 : Nat} {f1q0 : Nat → Bool} (r0 : R64 n0) (h1 : SlcOk W a1 m1 c1 1 (fun i => [.bool (f1q0 i)])) (b1 : (m1 : Int) < 9223372036854775808) : ∀ k : Nat, (∀ {x1 : Int} (g1x : R64 x1) (p11 : (0 ≤ x1 ∧ x1 ≤ 100)), (100 - x1) < k → NdGood Tryz.prog Tryz.f6 8 Tryz.H0 W Zw.p2 Zw.d5 [(.slice a1 m1 c1), (.int .i64 x1)]) := by
  intro k
  induction k with
  | zero =>
    intro x1 g1x p11 hk
    have ⟨gl1, gh1⟩ := g1x
    have ⟨rl0, rh0⟩ := r0
    have ⟨p11l, p11h⟩ := p11
    exfalso; omega
  | succ k ih =>
    have ih5 := @ih
    intro x1 g1x p11 hk
    have ⟨gl1, gh1⟩ := g1x
    have ⟨rl0, rh0⟩ := r0
    have ⟨p11l, p11h⟩ := p11
    by_cases q1 : x1 < (100 : Int)
    ·
      by_cases q2 : x1 < (m1 : Int)
      ·
        have l3 : (x1).toNat < m1 := by omega
        obtain ⟨p3, v3⟩ := h1.elem l3
        cases z4 : f1q0 (x1).toNat with
        | true =>
          obtain ⟨d5, e5, g5, o5⟩ := ex_add x1 (1 : Int)
          exact Zw.nx Zw.t25 [(.int .i64 (m1 : Int)), (.int .i64 d5)] [p3] (Zw.k2 _) ⟨Zw.hl rfl (by first | omega | assumption), Zw.hl rfl q1, hold_len (.atom _ _ rfl) (.atom _ _ rfl), hold_bool (.atom _ _ rfl) (.atom _ _ rfl) (op_lss_t q2), hold_idx v3 l3 (.atom _ _ rfl) (.atom _ _ rfl) (by omega) rfl, hold_op (.atom _ _ rfl) (.int _ _) o5 (.atom _ _ rfl), trivial⟩ Zw.i25 (rowsHold_cons (Elem.row v3 (VL.cons (vb z4) VL.nil)) rowsHold_nil) Zw.r25 (ih5 g5 (by constructor <;> omega) (by omega)) rfl rfl rfl rfl
        | false =>
          obtain ⟨d6, e6, g6, o6⟩ := ex_add x1 (1 : Int)
          exact Zw.nx Zw.t26 [(.int .i64 (m1 : Int)), (.int .i64 d6)] [p3] (Zw.k2 _) ⟨Zw.hl rfl (by first | omega | assumption), Zw.hl rfl q1, hold_len (.atom _ _ rfl) (.atom _ _ rfl), hold_bool (.atom _ _ rfl) (.atom _ _ rfl) (op_lss_t q2), hold_idx v3 l3 (.atom _ _ rfl) (.atom _ _ rfl) (by omega) rfl, hold_op (.atom _ _ rfl) (.int _ _) o6 (.atom _ _ rfl), trivial⟩ Zw.i26 (rowsHold_cons (Elem.row v3 (VL.cons (vb z4) VL.nil)) rowsHold_nil) Zw.r26 (Zw.n16 r0 h1 b1 g6 (by constructor <;> omega)) rfl rfl rfl rfl
      ·
        obtain ⟨d7, e7, g7, o7⟩ := ex_add x1 (1 : Int)
        exact Zw.nx Zw.t27 [(.int .i64 (m1 : Int)), (.int .i64 d7)] [] (Zw.k2 _) ⟨Zw.hl rfl (by first | omega | assumption), Zw.hl rfl q1, hold_len (.atom _ _ rfl) (.atom _ _ rfl), hold_bool (.atom _ _ rfl) (.atom _ _ rfl) (op_lss_f (Int.not_lt.1 q2)), hold_op (.atom _ _ rfl) (.int _ _) o7 (.atom _ _ rfl), trivial⟩ Zw.i27 rowsHold_nil Zw.r27 (Zw.n16 r0 h1 b1 g7 (by constructor <;> omega)) rfl rfl rfl rfl
    ·
      obtain ⟨d8, e8, g8, o8⟩ := ex_add x1 (1 : Int)
      exact Zw.nx Zw.t28 [(.int .i64 d8)] [] (Zw.k2 _) ⟨Zw.hl rfl (by first | omega | assumption), hold_bool (.atom _ _ rfl) (.int _ _) (op_lss_f (Int.not_lt.1 q1)), hold_op (.atom _ _ rfl) (.int _ _) o8 (.atom _ _ rfl), trivial⟩ Zw.i28 rowsHold_nil Zw.r28 (Zw.n16 r0 h1 b1 g8 (by constructor <;> omega)) rfl rfl rfl rfl
theorem Zw.n5 {W : World} {n0 : Int} {a1 : Option Addr} {m1 c1 : Nat} {f1q0 : Nat → Bool} (r0 : R64 n0) (h1 : SlcOk W a1 m1 c1 1 (fun i => [.bool (f1q0 i)])) (b1 : (m1 : Int) < 9223372036854775808) {x1 : Int} (g1x : R64 x1) (p11 : (0 ≤ x1 ∧ x1 ≤ 100)) : NdGood Tryz.prog Tryz.f6 8 Tryz.H0 W Zw.p2 Zw.d5 [(.slice a1 m1 c1), (.int .i64 x1)] :=
  (Zw.s5 r0 h1 b1 ((100 - x1).toNat + 1)) g1x p11 (by omega)
theorem Zw.n51 {W : World} {n0 : Int} {a1 : Option Addr} {m1 c1 : Nat} {f1q0 : Nat → Bool} (r0 : R64 n0) (h1 : SlcOk W a1 m1 c1 1 (fun i => [.bool (f1q0 i)])) (b1 : (m1 : Int) < 9223372036854775808) {x1 : Int} (g1x : R64 x1) (p11 : (0 ≤ x1 ∧ x1 ≤ 105)) : NdGood Tryz.prog Tryz.f6 8 Tryz.H0 W Zw.p2 Zw.d51 [(.slice a1 m1 c1), (.int .i64 x1)] := by
  have ⟨gl1, gh1⟩ := g1x
  have ⟨rl0, rh0⟩ := r0
  have ⟨p11l, p11h⟩ := p11
  exact Zw.fx Zw.t197 [] [] (Zw.k2 _) ⟨Zw.hl rfl (by first | omega | assumption), trivial⟩ Zw.i197 rfl rfl rowsHold_nil Zw.r197
theorem Zw.s44 {W : World} {n0 : Int} {a1 : Option Addr} {m1 c1 : Nat} {f1q0 : Nat → Bool} (r0 : R64 n0) (h1 : SlcOk W a1 m1 c1 1 (fun i => [.bool (f1q0 i)])) (b1 : (m1 : Int) < 9223372036854775808) : ∀ k : Nat, (∀ {x1 : Int} (g1x : R64 x1) (p11 : (0 ≤ x1 ∧ x1 ≤ 104)), (104 - x1) < k → NdGood Tryz.prog Tryz.f6 8 Tryz.H0 W Zw.p2 Zw.d44 [(.slice a1 m1 c1), (.int .i64 x1)]) := by
  intro k
  induction k with
  | zero =>
    intro x1 g1x p11 hk
    have ⟨gl1, gh1⟩ := g1x
    have ⟨rl0, rh0⟩ := r0
    have ⟨p11l, p11h⟩ := p11
    exfalso; omega
  | succ k ih =>
    have ih44 := @ih
    intro x1 g1x p11 hk
    have ⟨gl1, gh1⟩ := g1x
    have ⟨rl0, rh0⟩ := r0
    have ⟨p11l, p11h⟩ := p11
    by_cases q1 : x1 < (100 : Int)
    ·
      by_cases q2 : x1 < (m1 : Int)
      ·
        have l3 : (x1).toNat < m1 := by omega
        obtain ⟨p3, v3⟩ := h1.elem l3
        cases z4 : f1q0 (x1).toNat with
        | true =>
          obtain ⟨d5, e5, g5, o5⟩ := ex_add x1 (1 : Int)
          exact Zw.nx Zw.t169 [(.int .i64 (m1 : Int)), (.int .i64 d5)] [p3] (Zw.k2 _) ⟨Zw.hl rfl (by first | omega | assumption), Zw.hl rfl q1, hold_len (.atom _ _ rfl) (.atom _ _ rfl), hold_bool (.atom _ _ rfl) (.atom _ _ rfl) (op_lss_t q2), hold_idx v3 l3 (.atom _ _ rfl) (.atom _ _ rfl) (by omega) rfl, hold_op (.atom _ _ rfl) (.int _ _) o5 (.atom _ _ rfl), trivial⟩ Zw.i169 (rowsHold_cons (Elem.row v3 (VL.cons (vb z4) VL.nil)) rowsHold_nil) Zw.r169 (ih44 g5 (by constructor <;> omega) (by omega)) rfl rfl rfl rfl
        | false =>
          obtain ⟨d6, e6, g6, o6⟩ := ex_add x1 (1 : Int)
          exact Zw.nx Zw.t170 [(.int .i64 (m1 : Int)), (.int .i64 d6)] [p3] (Zw.k2 _) ⟨Zw.hl rfl (by first | omega | assumption), Zw.hl rfl q1, hold_len (.atom _ _ rfl) (.atom _ _ rfl), hold_bool (.atom _ _ rfl) (.atom _ _ rfl) (op_lss_t q2), hold_idx v3 l3 (.atom _ _ rfl) (.atom _ _ rfl) (by omega) rfl, hold_op (.atom _ _ rfl) (.int _ _) o6 (.atom _ _ rfl), trivial⟩ Zw.i170 (rowsHold_cons (Elem.row v3 (VL.cons (vb z4) VL.nil)) rowsHold_nil) Zw.r170 (Zw.n51 r0 h1 b1 g6 (by constructor <;> omega)) rfl rfl rfl rfl
      ·
        obtain ⟨d7, e7, g7, o7⟩ := ex_add x1 (1 : Int)
        exact Zw.nx Zw.t171 [(.int .i64 (m1 : Int)), (.int .i64 d7)] [] (Zw.k2 _) ⟨Zw.hl rfl (by first | omega | assumption), Zw.hl rfl q1, hold_len (.atom _ _ rfl) (.atom _ _ rfl), hold_bool (.atom _ _ rfl) (.atom _ _ rfl) (op_lss_f (Int.not_lt.1 q2)), hold_op (.atom _ _ rfl) (.int _ _) o7 (.atom _ _ rfl), trivial⟩ Zw.i171 rowsHold_nil Zw.r171 (Zw.n51 r0 h1 b1 g7 (by constructor <;> omega)) rfl rfl rfl rfl
    ·
      obtain ⟨d8, e8, g8, o8⟩ := ex_add x1 (1 : Int)
      exact Zw.nx Zw.t172 [(.int .i64 d8)] [] (Zw.k2 _) ⟨Zw.hl rfl (by first | omega | assumption), hold_bool (.atom _ _ rfl) (.int _ _) (op_lss_f (Int.not_lt.1 q1)), hold_op (.atom _ _ rfl) (.int _ _) o8 (.atom _ _ rfl), trivial⟩ Zw.i172 rowsHold_nil Zw.r172 (Zw.n51 r0 h1 b1 g8 (by constructor <;> omega)) rfl rfl rfl rfl
theorem Zw.n44 {W : World} {n0 : Int} {a1 : Option Addr} {m1 c1 : Nat} {f1q0 : Nat → Bool} (r0 : R64 n0) (h1 : SlcOk W a1 m1 c1 1 (fun i => [.bool (f1q0 i)])) (b1 : (m1 : Int) < 9223372036854775808) {x1 : Int} (g1x : R64 x1) (p11 : (0 ≤ x1 ∧ x1 ≤ 104)) : NdGood Tryz.prog Tryz.f6 8 Tryz.H0 W Zw.p2 Zw.d44 [(.slice a1 m1 c1), (.int .i64 x1)] :=
  (Zw.s44 r0 h1 b1 ((104 - x1).toNat + 1)) g1x p11 (by omega)
theorem Zw.s36 {W : World} {n0 : Int} {a1 : Option Addr} {m1 c1 : Nat} {f1q0 : Nat → Bool} (r0 : R64 n0) (h1 : SlcOk W a1 m1 c1 1 (fun i => [.bool (f1q0 i)])) (b1 : (m1 : Int) < 9223372036854775808) : ∀ k : Nat, (∀ {x1 : Int} (g1x : R64 x1) (p11 : (0 ≤ x1 ∧ x1 ≤ 103)), (103 - x1) < k → NdGood Tryz.prog Tryz.f6 8 Tryz.H0 W Zw.p2 Zw.d36 [(.slice a1 m1 c1), (.int .i64 x1)]) := by
  intro k
  induction k with
  | zero =>
    intro x1 g1x p11 hk
    have ⟨gl1, gh1⟩ := g1x
    have ⟨rl0, rh0⟩ := r0
    have ⟨p11l, p11h⟩ := p11
    exfalso; omega
  | succ k ih =>
    have ih36 := @ih
    intro x1 g1x p11 hk
    have ⟨gl1, gh1⟩ := g1x
    have ⟨rl0, rh0⟩ := r0
    have ⟨p11l, p11h⟩ := p11
    by_cases q1 : x1 < (100 : Int)
    ·
      by_cases q2 : x1 < (m1 : Int)
      ·
        have l3 : (x1).toNat < m1 := by omega
        obtain ⟨p3, v3⟩ := h1.elem l3
        cases z4 : f1q0 (x1).toNat with
        | true =>
          obtain ⟨d5, e5, g5, o5⟩ := ex_add x1 (1 : Int)
          exact Zw.nx Zw.t140 [(.int .i64 (m1 : Int)), (.int .i64 d5)] [p3] (Zw.k2 _) ⟨Zw.hl rfl (by first | omega | assumption), Zw.hl rfl q1, hold_len (.atom _ _ rfl) (.atom _ _ rfl), hold_bool (.atom _ _ rfl) (.atom _ _ rfl) (op_lss_t q2), hold_idx v3 l3 (.atom _ _ rfl) (.atom _ _ rfl) (by omega) rfl, hold_op (.atom _ _ rfl) (.int _ _) o5 (.atom _ _ rfl), trivial⟩ Zw.i140 (rowsHold_cons (Elem.row v3 (VL.cons (vb z4) VL.nil)) rowsHold_nil) Zw.r140 (ih36 g5 (by constructor <;> omega) (by omega)) rfl rfl rfl rfl
        | false =>
          obtain ⟨d6, e6, g6, o6⟩ := ex_add x1 (1 : Int)
          exact Zw.nx Zw.t141 [(.int .i64 (m1 : Int)), (.int .i64 d6)] [p3] (Zw.k2 _) ⟨Zw.hl rfl (by first | omega | assumption), Zw.hl rfl q1, hold_len (.atom _ _ rfl) (.atom _ _ rfl), hold_bool (.atom _ _ rfl) (.atom _ _ rfl) (op_lss_t q2), hold_idx v3 l3 (.atom _ _ rfl) (.atom _ _ rfl) (by omega) rfl, hold_op (.atom _ _ rfl) (.int _ _) o6 (.atom _ _ rfl), trivial⟩ Zw.i141 (rowsHold_cons (Elem.row v3 (VL.cons (vb z4) VL.nil)) rowsHold_nil) Zw.r141 (Zw.n44 r0 h1 b1 g6 (by constructor <;> omega)) rfl rfl rfl rfl
      ·
        obtain ⟨d7, e7, g7, o7⟩ := ex_add x1 (1 : Int)
        exact Zw.nx Zw.t142 [(.int .i64 (m1 : Int)), (.int .i64 d7)] [] (Zw.k2 _) ⟨Zw.hl rfl (by first | omega | assumption), Zw.hl rfl q1, hold_len (.atom _ _ rfl) (.atom _ _ rfl), hold_bool (.atom _ _ rfl) (.atom _ _ rfl) (op_lss_f (Int.not_lt.1 q2)), hold_op (.atom _ _ rfl) (.int _ _) o7 (.atom _ _ rfl), trivial⟩ Zw.i142 rowsHold_nil Zw.r142 (Zw.n44 r0 h1 b1 g7 (by constructor <;> omega)) rfl rfl rfl rfl
    ·
      obtain ⟨d8, e8, g8, o8⟩ := ex_add x1 (1 : Int)
      exact Zw.nx Zw.t143 [(.int .i64 d8)] [] (Zw.k2 _) ⟨Zw.hl rfl (by first | omega | assumption), hold_bool (.atom _ _ rfl) (.int _ _) (op_lss_f (Int.not_lt.1 q1)), hold_op (.atom _ _ rfl) (.int _ _) o8 (.atom _ _ rfl), trivial⟩ Zw.i143 rowsHold_nil Zw.r143 (Zw.n44 r0 h1 b1 g8 (by constructor <;> omega)) rfl rfl rfl rfl
theorem Zw.n36 {W : World} {n0 : Int} {a1 : Option Addr} {m1 c1 : Nat} {f1q0 : Nat → Bool} (r0 : R64 n0) (h1 : SlcOk W a1 m1 c1 1 (fun i => [.bool (f1q0 i)])) (b1 : (m1 : Int) < 9223372036854775808) {x1 : Int} (g1x : R64 x1) (p11 : (0 ≤ x1 ∧ x1 ≤ 103)) : NdGood Tryz.prog Tryz.f6 8 Tryz.H0 W Zw.p2 Zw.d36 [(.slice a1 m1 c1), (.int .i64 x1)] :=
  (Zw.s36 r0 h1 b1 ((103 - x1).toNat + 1)) g1x p11 (by omega)
theorem Zw.s27 {W : World} {n0 : Int} {a1 : Option Addr} {m1 c1 : Nat} {f1q0 : Nat → Bool} (r0 : R64 n0) (h1 : SlcOk W a1 m1 c1 1 (fun i => [.bool (f1q0 i)])) (b1 : (m1 : Int) < 9223372036854775808) : ∀ k : Nat, (∀ {x1 : Int} (g1x : R64 x1) (p11 : (0 ≤ x1 ∧ x1 ≤ 102)), (102 - x1) < k → NdGood Tryz.prog Tryz.f6 8 Tryz.H0 W Zw.p2 Zw.d27 [(.slice a1 m1 c1), (.int .i64 x1)]) := by
  intro k
  induction k with
  | zero =>
    intro x1 g1x p11 hk
    have ⟨gl1, gh1⟩ := g1x
    have ⟨rl0, rh0⟩ := r0
    have ⟨p11l, p11h⟩ := p11
    exfalso; omega
  | succ k ih =>
    have ih27 := @ih
    intro x1 g1x p11 hk
    have ⟨gl1, gh1⟩ := g1x
    have ⟨rl0, rh0⟩ := r0
    have ⟨p11l, p11h⟩ := p11
    by_cases q1 : x1 < (100 : Int)
    ·
      by_cases q2 : x1 < (m1 : Int)
      ·
        have l3 : (x1).toNat < m1 := by omega
        obtain ⟨p3, v3⟩ := h1.elem l3
        cases z4 : f1q0 (x1).toNat with
        | true =>
          obtain ⟨d5, e5, g5, o5⟩ := ex_add x1 (1 : Int)
          exact Zw.nx Zw.t107 [(.int .i64 (m1 : Int)), (.int .i64 d5)] [p3] (Zw.k2 _) ⟨Zw.hl rfl (by first | omega | assumption), Zw.hl rfl q1, hold_len (.atom _ _ rfl) (.atom _ _ rfl), hold_bool (.atom _ _ rfl) (.atom _ _ rfl) (op_lss_t q2), hold_idx v3 l3 (.atom _ _ rfl) (.atom _ _ rfl) (by omega) rfl, hold_op (.atom _ _ rfl) (.int _ _) o5 (.atom _ _ rfl), trivial⟩ Zw.i107 (rowsHold_cons (Elem.row v3 (VL.cons (vb z4) VL.nil)) rowsHold_nil) Zw.r107 (ih27 g5 (by constructor <;> omega) (by omega)) rfl rfl rfl rfl
        | false =>
          obtain ⟨d6, e6, g6, o6⟩ := ex_add x1 (1 : Int)
          exact Zw.nx Zw.t108 [(.int .i64 (m1 : Int)), (.int .i64 d6)] [p3] (Zw.k2 _) ⟨Zw.hl rfl (by first | omega | assumption), Zw.hl rfl q1, hold_len (.atom _ _ rfl) (.atom _ _ rfl), hold_bool (.atom _ _ rfl) (.atom _ _ rfl) (op_lss_t q2), hold_idx v3 l3 (.atom _ _ rfl) (.atom _ _ rfl) (by omega) rfl, hold_op (.atom _ _ rfl) (.int _ _) o6 (.atom _ _ rfl), trivial⟩ Zw.i108 (rowsHold_cons (Elem.row v3 (VL.cons (vb z4) VL.nil)) rowsHold_nil) Zw.r108 (Zw.n36 r0 h1 b1 g6 (by constructor <;> omega)) rfl rfl rfl rfl
      ·
        obtain ⟨d7, e7, g7, o7⟩ := ex_add x1 (1 : Int)
        exact Zw.nx Zw.t109 [(.int .i64 (m1 : Int)), (.int .i64 d7)] [] (Zw.k2 _) ⟨Zw.hl rfl (by first | omega | assumption), Zw.hl rfl q1, hold_len (.atom _ _ rfl) (.atom _ _ rfl), hold_bool (.atom _ _ rfl) (.atom _ _ rfl) (op_lss_f (Int.not_lt.1 q2)), hold_op (.atom _ _ rfl) (.int _ _) o7 (.atom _ _ rfl), trivial⟩ Zw.i109 rowsHold_nil Zw.r109 (Zw.n36 r0 h1 b1 g7 (by constructor <;> omega)) rfl rfl rfl rfl
    ·
      obtain ⟨d8, e8, g8, o8⟩ := ex_add x1 (1 : Int)
      exact Zw.nx Zw.t110 [(.int .i64 d8)] [] (Zw.k2 _) ⟨Zw.hl rfl (by first | omega | assumption), hold_bool (.atom _ _ rfl) (.int _ _) (op_lss_f (Int.not_lt.1 q1)), hold_op (.atom _ _ rfl) (.int _ _) o8 (.atom _ _ rfl), trivial⟩ Zw.i110 rowsHold_nil Zw.r110 (Zw.n36 r0 h1 b1 g8 (by constructor <;> omega)) rfl rfl rfl rfl
theorem Zw.n27 {W : World} {n0 : Int} {a1 : Option Addr} {m1 c1 : Nat} {f1q0 : Nat → Bool} (r0 : R64 n0) (h1 : SlcOk W a1 m1 c1 1 (fun i => [.bool (f1q0 i)])) (b1 : (m1 : Int) < 9223372036854775808) {x1 : Int} (g1x : R64 x1) (p11 : (0 ≤ x1 ∧ x1 ≤ 102)) : NdGood Tryz.prog Tryz.f6 8 Tryz.H0 W Zw.p2 Zw.d27 [(.slice a1 m1 c1), (.int .i64 x1)] :=
  (Zw.s27 r0 h1 b1 ((102 - x1).toNat + 1)) g1x p11 (by omega)
theorem Zw.s17 {W : World} {n0 : Int} {a1 : Option Addr} {m1 c1 : Nat} {f1q0 : Nat → Bool} (r0 : R64 n0) (h1 : SlcOk W a1 m1 c1 1 (fun i => [.bool (f1q0 i)])) (b1 : (m1 : Int) < 9223372036854775808) : ∀ k : Nat, (∀ {x1 : Int} (g1x : R64 x1) (p11 : (0 ≤ x1 ∧ x1 ≤ 101)), (101 - x1) < k → NdGood Tryz.prog Tryz.f6 8 Tryz.H0 W Zw.p2 Zw.d17 [(.slice a1 m1 c1), (.int .i64 x1)]) := by
  intro k
  induction k with
  | zero =>
    intro x1 g1x p11 hk
    have ⟨gl1, gh1⟩ := g1x
    have ⟨rl0, rh0⟩ := r0
    have ⟨p11l, p11h⟩ := p11
    exfalso; omega
  | succ k ih =>
    have ih17 := @ih
    intro x1 g1x p11 hk
    have ⟨gl1, gh1⟩ := g1x
    have ⟨rl0, rh0⟩ := r0
    have ⟨p11l, p11h⟩ := p11
    by_cases q1 : x1 < (100 : Int)
    ·
      by_cases q2 : x1 < (m1 : Int)
      ·
        have l3 : (x1).toNat < m1 := by omega
        obtain ⟨p3, v3⟩ := h1.elem l3
        cases z4 : f1q0 (x1).toNat with
        | true =>
          obtain ⟨d5, e5, g5, o5⟩ := ex_add x1 (1 : Int)
          exact Zw.nx Zw.t70 [(.int .i64 (m1 : Int)), (.int .i64 d5)] [p3] (Zw.k2 _) ⟨Zw.hl rfl (by first | omega | assumption), Zw.hl rfl q1, hold_len (.atom _ _ rfl) (.atom _ _ rfl), hold_bool (.atom _ _ rfl) (.atom _ _ rfl) (op_lss_t q2), hold_idx v3 l3 (.atom _ _ rfl) (.atom _ _ rfl) (by omega) rfl, hold_op (.atom _ _ rfl) (.int _ _) o5 (.atom _ _ rfl), trivial⟩ Zw.i70 (rowsHold_cons (Elem.row v3 (VL.cons (vb z4) VL.nil)) rowsHold_nil) Zw.r70 (ih17 g5 (by constructor <;> omega) (by omega)) rfl rfl rfl rfl
        | false =>
          obtain ⟨d6, e6, g6, o6⟩ := ex_add x1 (1 : Int)
          exact Zw.nx Zw.t71 [(.int .i64 (m1 : Int)), (.int .i64 d6)] [p3] (Zw.k2 _) ⟨Zw.hl rfl (by first | omega | assumption), Zw.hl rfl q1, hold_len (.atom _ _ rfl) (.atom _ _ rfl), hold_bool (.atom _ _ rfl) (.atom _ _ rfl) (op_lss_t q2), hold_idx v3 l3 (.atom _ _ rfl) (.atom _ _ rfl) (by omega) rfl, hold_op (.atom _ _ rfl) (.int _ _) o6 (.atom _ _ rfl), trivial⟩ Zw.i71 (rowsHold_cons (Elem.row v3 (VL.cons (vb z4) VL.nil)) rowsHold_nil) Zw.r71 (Zw.n27 r0 h1 b1 g6 (by constructor <;> omega)) rfl rfl rfl rfl
      ·
        obtain ⟨d7, e7, g7, o7⟩ := ex_add x1 (1 : Int)
        exact Zw.nx Zw.t72 [(.int .i64 (m1 : Int)), (.int .i64 d7)] [] (Zw.k2 _) ⟨Zw.hl rfl (by first | omega | assumption), Zw.hl rfl q1, hold_len (.atom _ _ rfl) (.atom _ _ rfl), hold_bool (.atom _ _ rfl) (.atom _ _ rfl) (op_lss_f (Int.not_lt.1 q2)), hold_op (.atom _ _ rfl) (.int _ _) o7 (.atom _ _ rfl), trivial⟩ Zw.i72 rowsHold_nil Zw.r72 (Zw.n27 r0 h1 b1 g7 (by constructor <;> omega)) rfl rfl rfl rfl
    ·
      obtain ⟨d8, e8, g8, o8⟩ := ex_add x1 (1 : Int)
      exact Zw.nx Zw.t73 [(.int .i64 d8)] [] (Zw.k2 _) ⟨Zw.hl rfl (by first | omega | assumption), hold_bool (.atom _ _ rfl) (.int _ _) (op_lss_f (Int.not_lt.1 q1)), hold_op (.atom _ _ rfl) (.int _ _) o8 (.atom _ _ rfl), trivial⟩ Zw.i73 rowsHold_nil Zw.r73 (Zw.n27 r0 h1 b1 g8 (by constructor <;> omega)) rfl rfl rfl rfl
theorem Zw.n17 {W : World} {n0 : Int} {a1 : Option Addr} {m1 c1 : Nat} {f1q0 : Nat → Bool} (r0 : R64 n0) (h1 : SlcOk W a1 m1 c1 1 (fun i => [.bool (f1q0 i)])) (b1 : (m1 : Int) < 9223372036854775808) {x1 : Int} (g1x : R64 x1) (p11 : (0 ≤ x1 ∧ x1 ≤ 101)) : NdGood Tryz.prog Tryz.f6 8 Tryz.H0 W Zw.p2 Zw.d17 [(.slice a1 m1 c1), (.int .i64 x1)] :=
  (Zw.s17 r0 h1 b1 ((101 - x1).toNat + 1)) g1x p11 (by omega)
theorem Zw.s6 {W : World} {n0 : Int} {a1 : Option Addr} {m1 c1 : Nat} {f1q0 : Nat → Bool} (r0 : R64 n0) (h1 : SlcOk W a1 m1 c1 1 (fun i => [.bool (f1q0 i)])) (b1 : (m1 : Int) < 9223372036854775808) : ∀ k : Nat, (∀ {x1 : Int} (g1x : R64 x1) (p11 : (0 ≤ x1 ∧ x1 ≤ 100)), (100 - x1) < k → NdGood Tryz.prog Tryz.f6 8 Tryz.H0 W Zw.p2 Zw.d6 [(.slice a1 m1 c1), (.int .i64 x1)]) := by
  intro k
  induction k with
  | zero =>
    intro x1 g1x p11 hk
    have ⟨gl1, gh1⟩ := g1x
    have ⟨rl0, rh0⟩ := r0
    have ⟨p11l, p11h⟩ := p11
    exfalso; omega
  | succ k ih =>
    have ih6 := @ih
    intro x1 g1x p11 hk
    have ⟨gl1, gh1⟩ := g1x
    have ⟨rl0, rh0⟩ := r0
    have ⟨p11l, p11h⟩ := p11
    by_cases q1 : x1 < (100 : Int)
    ·
      by_cases q2 : x1 < (m1 : Int)
      ·
        have l3 : (x1).toNat < m1 := by omega
        obtain ⟨p3, v3⟩ := h1.elem l3
        cases z4 : f1q0 (x1).toNat with
        | true =>
          obtain ⟨d5, e5, g5, o5⟩ := ex_add x1 (1 : Int)
          exact Zw.nx Zw.t29 [(.int .i64 (m1 : Int)), (.int .i64 d5)] [p3] (Zw.k2 _) ⟨Zw.hl rfl (by first | omega | assumption), Zw.hl rfl q1, hold_len (.atom _ _ rfl) (.atom _ _ rfl), hold_bool (.atom _ _ rfl) (.atom _ _ rfl) (op_lss_t q2), hold_idx v3 l3 (.atom _ _ rfl) (.atom _ _ rfl) (by omega) rfl, hold_op (.atom _ _ rfl) (.int _ _) o5 (.atom _ _ rfl), trivial⟩ Zw.i29 (rowsHold_cons (Elem.row v3 (VL.cons (vb z4) VL.nil)) rowsHold_nil) Zw.r29 (ih6 g5 (by constructor <;> omega) (by omega)) rfl rfl rfl rfl
        | false =>
          obtain ⟨d6, e6, g6, o6⟩ := ex_add x1 (1 : Int)
          exact Zw.nx Zw.t30 [(.int .i64 (m1 : Int)), (.int .i64 d6)] [p3] (Zw.k2 _) ⟨Zw.hl rfl (by first | omega | assumption), Zw.hl rfl q1, hold_len (.atom _ _ rfl) (.atom _ _ rfl), hold_bool (.atom _ _ rfl) (.atom _ _ rfl) (op_lss_t q2), hold_idx v3 l3 (.atom _ _ rfl) (.atom _ _ rfl) (by omega) rfl, hold_op (.atom _ _ rfl) (.int _ _) o6 (.atom _ _ rfl), trivial⟩ Zw.i30 (rowsHold_cons (Elem.row v3 (VL.cons (vb z4) VL.nil)) rowsHold_nil) Zw.r30 (Zw.n17 r0 h1 b1 g6 (by constructor <;> omega)) rfl rfl rfl rfl
      ·
        obtain ⟨d7, e7, g7, o7⟩ := ex_add x1 (1 : Int)
        exact Zw.nx Zw.t31 [(.int .i64 (m1 : Int)), (.int .i64 d7)] [] (Zw.k2 _) ⟨Zw.hl rfl (by first | omega | assumption), Zw.hl rfl q1, hold_len (.atom _ _ rfl) (.atom _ _ rfl), hold_bool (.atom _ _ rfl) (.atom _ _ rfl) (op_lss_f (Int.not_lt.1 q2)), hold_op (.atom _ _ rfl) (.int _ _) o7 (.atom _ _ rfl), trivial⟩ Zw.i31 rowsHold_nil Zw.r31 (Zw.n17 r0 h1 b1 g7 (by constructor <;> omega)) rfl rfl rfl rfl
    ·
      obtain ⟨d8, e8, g8, o8⟩ := ex_add x1 (1 : Int)
      exact Zw.nx Zw.t32 [(.int .i64 d8)] [] (Zw.k2 _) ⟨Zw.hl rfl (by first | omega | assumption), hold_bool (.atom _ _ rfl) (.int _ _) (op_lss_f (Int.not_lt.1 q1)), hold_op (.atom _ _ rfl) (.int _ _) o8 (.atom _ _ rfl), trivial⟩ Zw.i32 rowsHold_nil Zw.r32 (Zw.n17 r0 h1 b1 g8 (by constructor <;> omega)) rfl rfl rfl rfl
theorem Zw.n6 {W : World} {n0 : Int} {a1 : Option Addr} {m1 c1 : Nat} {f1q0 : Nat → Bool} (r0 : R64 n0) (h1 : SlcOk W a1 m1 c1 1 (fun i => [.bool (f1q0 i)])) (b1 : (m1 : Int) < 9223372036854775808) {x1 : Int} (g1x : R64 x1) (p11 : (0 ≤ x1 ∧ x1 ≤ 100)) : NdGood Tryz.prog Tryz.f6 8 Tryz.H0 W Zw.p2 Zw.d6 [(.slice a1 m1 c1), (.int .i64 x1)] :=
  (Zw.s6 r0 h1 b1 ((100 - x1).toNat + 1)) g1x p11 (by omega)
theorem Zw.n58 {W : World} {n0 : Int} {a1 : Option Addr} {m1 c1 : Nat} {f1q0 : Nat → Bool} (r0 : R64 n0) (h1 : SlcOk W a1 m1 c1 1 (fun i => [.bool (f1q0 i)])) (b1 : (m1 : Int) < 9223372036854775808) {x1 : Int} (g1x : R64 x1) (p11 : (0 ≤ x1 ∧ x1 ≤ 106)) : NdGood Tryz.prog Tryz.f6 8 Tryz.H0 W Zw.p2 Zw.d58 [(.slice a1 m1 c1), (.int .i64 x1)] := by
  have ⟨gl1, gh1⟩ := g1x
  have ⟨rl0, rh0⟩ := r0
  have ⟨p11l, p11h⟩ := p11
  exact Zw.fx Zw.t222 [] [] (Zw.k2 _) ⟨Zw.hl rfl (by first | omega | assumption), trivial⟩ Zw.i222 rfl rfl rowsHold_nil Zw.r222
theorem Zw.s52 {W : World} {n0 : Int} {a1 : Option Addr} {m1 c1 : Nat} {f1q0 : Nat → Bool} (r0 : R64 n0) (h1 : SlcOk W a1 m1 c1 1 (fun i => [.bool (f1q0 i)])) (b1 : (m1 : Int) < 9223372036854775808) : ∀ k : Nat, (∀ {x1 : Int} (g1x : R64 x1) (p11 : (0 ≤ x1 ∧ x1 ≤ 105)), (105 - x1) < k → NdGood Tryz.prog Tryz.f6 8 Tryz.H0 W Zw.p2 Zw.d52 [(.slice a1 m1 c1), (.int .i64 x1)]) := by
  intro k
  induction k with
  | zero =>
    intro x1 g1x p11 hk
    have ⟨gl1, gh1⟩ := g1x
    have ⟨rl0, rh0⟩ := r0
    have ⟨p11l, p11h⟩ := p11
    exfalso; omega
  | succ k ih =>
    have ih52 := @ih
    intro x1 g1x p11 hk
    have ⟨gl1, gh1⟩ := g1x
    have ⟨rl0, rh0⟩ := r0
    have ⟨p11l, p11h⟩ := p11
    by_cases q1 : x1 < (100 : Int)
    ·
      by_cases q2 : x1 < (m1 : Int)
      ·
        have l3 : (x1).toNat < m1 := by omega
        obtain ⟨p3, v3⟩ := h1.elem l3
        cases z4 : f1q0 (x1).toNat with
        | true =>
          obtain ⟨d5, e5, g5, o5⟩ := ex_add x1 (1 : Int)
          exact Zw.nx Zw.t198 [(.int .i64 (m1 : Int)), (.int .i64 d5)] [p3] (Zw.k2 _) ⟨Zw.hl rfl (by first | omega | assumption), Zw.hl rfl q1, hold_len (.atom _ _ rfl) (.atom _ _ rfl), hold_bool (.atom _ _ rfl) (.atom _ _ rfl) (op_lss_t q2), hold_idx v3 l3 (.atom _ _ rfl) (.atom _ _ rfl) (by omega) rfl, hold_op (.atom _ _ rfl) (.int _ _) o5 (.atom _ _ rfl), trivial⟩ Zw.i198 (rowsHold_cons (Elem.row v3 (VL.cons (vb z4) VL.nil)) rowsHold_nil) Zw.r198 (ih52 g5 (by constructor <;> omega) (by omega)) rfl rfl rfl rfl
        | false =>
          obtain ⟨d6, e6, g6, o6⟩ := ex_add x1 (1 : Int)
          exact Zw.nx Zw.t199 [(.int .i64 (m1 : Int)), (.int .i64 d6)] [p3] (Zw.k2 _) ⟨Zw.hl rfl (by first | omega | assumption), Zw.hl rfl q1, hold_len (.atom _ _ rfl) (.atom _ _ rfl), hold_bool (.atom _ _ rfl) (.atom _ _ rfl) (op_lss_t q2), hold_idx v3 l3 (.atom _ _ rfl) (.atom _ _ rfl) (by omega) rfl, hold_op (.atom _ _ rfl) (.int _ _) o6 (.atom _ _ rfl), trivial⟩ Zw.i199 (rowsHold_cons (Elem.row v3 (VL.cons (vb z4) VL.nil)) rowsHold_nil) Zw.r199 (Zw.n58 r0 h1 b1 g6 (by constructor <;> omega)) rfl rfl rfl rfl
      ·
        obtain ⟨d7, e7, g7, o7⟩ := ex_add x1 (1 : Int)
        exact Zw.nx Zw.t200 [(.int .i64 (m1 : Int)), (.int .i64 d7)] [] (Zw.k2 _) ⟨Zw.hl rfl (by first | omega | assumption), Zw.hl rfl q1, hold_len (.atom _ _ rfl) (.atom _ _ rfl), hold_bool (.atom _ _ rfl) (.atom _ _ rfl) (op_lss_f (Int.not_lt.1 q2)), hold_op (.atom _ _ rfl) (.int _ _) o7 (.atom _ _ rfl), trivial⟩ Zw.i200 rowsHold_nil Zw.r200 (Zw.n58 r0 h1 b1 g7 (by constructor <;> omega)) rfl rfl rfl rfl
    ·
      obtain ⟨d8, e8, g8, o8⟩ := ex_add x1 (1 : Int)
      exact Zw.nx Zw.t201 [(.int .i64 d8)] [] (Zw.k2 _) ⟨Zw.hl rfl (by first | omega | assumption), hold_bool (.atom _ _ rfl) (.int _ _) (op_lss_f (Int.not_lt.1 q1)), hold_op (.atom _ _ rfl) (.int _ _) o8 (.atom _ _ rfl), trivial⟩ Zw.i201 rowsHold_nil Zw.r201 (Zw.n58 r0 h1 b1 g8 (by constructor <;> omega)) rfl rfl rfl rfl
theorem Zw.n52 {W : World} {n0 : Int} {a1 : Option Addr} {m1 c1 : Nat} {f1q0 : Nat → Bool} (r0 : R64 n0) (h1 : SlcOk W a1 m1 c1 1 (fun i => [.bool (f1q0 i)])) (b1 : (m1 : Int) < 9223372036854775808) {x1 : Int} (g1x : R64 x1) (p11 : (0 ≤ x1 ∧ x1 ≤ 105)) : NdGood Tryz.prog Tryz.f6 8 Tryz.H0 W Zw.p2 Zw.d52 [(.slice a1 m1 c1), (.int .i64 x1)] :=
  (Zw.s52 r0 h1 b1 ((105 - x1).toNat + 1)) g1x p11 (by omega)
theorem Zw.s45 {W : World} {n0 : Int} {a1 : Option Addr} {m1 c1 : Nat} {f1q0 : Nat → Bool} (r0 : R64 n0) (h1 : SlcOk W a1 m1 c1 1 (fun i => [.bool (f1q0 i)])) (b1 : (m1 : Int) < 9223372036854775808) : ∀ k : Nat, (∀ {x1 : Int} (g1x : R64 x1) (p11 : (0 ≤ x1 ∧ x1 ≤ 104)), (104 - x1) < k → NdGood Tryz.prog Tryz.f6 8 Tryz.H0 W Zw.p2 Zw.d45 [(.slice a1 m1 c1), (.int .i64 x1)]) := by
  intro k
  induction k with
  | zero =>
    intro x1 g1x p11 hk
    have ⟨gl1, gh1⟩ := g1x
    have ⟨rl0, rh0⟩ := r0
    have ⟨p11l, p11h⟩ := p11
    exfalso; omega
  | succ k ih =>
    have ih45 := @ih
    intro x1 g1x p11 hk
    have ⟨gl1, gh1⟩ := g1x
    have ⟨rl0, rh0⟩ := r0
    have ⟨p11l, p11h⟩ := p11
    by_cases q1 : x1 < (100 : Int)
    ·
      by_cases q2 : x1 < (m1 : Int)
      ·
        have l3 : (x1).toNat < m1 := by omega
        obtain ⟨p3, v3⟩ := h1.elem l3
        cases z4 : f1q0 (x1).toNat with
        | true =>
          obtain ⟨d5, e5, g5, o5⟩ := ex_add x1 (1 : Int)
          exact Zw.nx Zw.t173 [(.int .i64 (m1 : Int)), (.int .i64 d5)] [p3] (Zw.k2 _) ⟨Zw.hl rfl (by first | omega | assumption), Zw.hl rfl q1, hold_len (.atom _ _ rfl) (.atom _ _ rfl), hold_bool (.atom _ _ rfl) (.atom _ _ rfl) (op_lss_t q2), hold_idx v3 l3 (.atom _ _ rfl) (.atom _ _ rfl) (by omega) rfl, hold_op (.atom _ _ rfl) (.int _ _) o5 (.atom _ _ rfl), trivial⟩ Zw.i173 (rowsHold_cons (Elem.row v3 (VL.cons (vb z4) VL.nil)) rowsHold_nil) Zw.r173 (ih45 g5 (by constructor <;> omega) (by omega)) rfl rfl rfl rfl
        | false =>
          obtain ⟨d6, e6, g6, o6⟩ := ex_add x1 (1 : Int)
          exact Zw.nx Zw.t174 [(.int .i64 (m1 : Int)), (.int .i64 d6)] [p3] (Zw.k2 _) ⟨Zw.hl rfl (by first | omega | assumption), Zw.hl rfl q1, hold_len (.atom _ _ rfl) (.atom _ _ rfl), hold_bool (.atom _ _ rfl) (.atom _ _ rfl) (op_lss_t q2), hold_idx v3 l3 (.atom _ _ rfl) (.atom _ _ rfl) (by omega) rfl, hold_op (.atom _ _ rfl) (.int _ _) o6 (.atom _ _ rfl), trivial⟩ Zw.i174 (rowsHold_cons (Elem.row v3 (VL.cons (vb z4) VL.nil)) rowsHold_nil) Zw.r174 (Zw.n52 r0 h1 b1 g6 (by constructor <;> omega)) rfl rfl rfl rfl
      ·
        obtain ⟨d7, e7, g7, o7⟩ := ex_add x1 (1 : Int)
        exact Zw.nx Zw.t175 [(.int .i64 (m1 : Int)), (.int .i64 d7)] [] (Zw.k2 _) ⟨Zw.hl rfl (by first | omega | assumption), Zw.hl rfl q1, hold_len (.atom _ _ rfl) (.atom _ _ rfl), hold_bool (.atom _ _ rfl) (.atom _ _ rfl) (op_lss_f (Int.not_lt.1 q2)), hold_op (.atom _ _ rfl) (.int _ _) o7 (.atom _ _ rfl), trivial⟩ Zw.i175 rowsHold_nil Zw.r175 (Zw.n52 r0 h1 b1 g7 (by constructor <;> omega)) rfl rfl rfl rfl
    ·
      obtain ⟨d8, e8, g8, o8⟩ := ex_add x1 (1 : Int)
      exact Zw.nx Zw.t176 [(.int .i64 d8)] [] (Zw.k2 _) ⟨Zw.hl rfl (by first | omega | assumption), hold_bool (.atom _ _ rfl) (.int _ _) (op_lss_f (Int.not_lt.1 q1)), hold_op (.atom _ _ rfl) (.int _ _) o8 (.atom _ _ rfl), trivial⟩ Zw.i176 rowsHold_nil Zw.r176 (Zw.n52 r0 h1 b1 g8 (by constructor <;> omega)) rfl rfl rfl rfl
theorem Zw.n45 {W : World} {n0 : Int} {a1 : Option Addr} {m1 c1 : Nat} {f1q0 : Nat → Bool} (r0 : R64 n0) (h1 : SlcOk W a1 m1 c1 1 (fun i => [.bool (f1q0 i)])) (b1 : (m1 : Int) < 9223372036854775808) {x1 : Int} (g1x : R64 x1) (p11 : (0 ≤ x1 ∧ x1 ≤ 104)) : NdGood Tryz.prog Tryz.f6 8 Tryz.H0 W Zw.p2 Zw.d45 [(.slice a1 m1 c1), (.int .i64 x1)] :=
  (Zw.s45 r0 h1 b1 ((104 - x1).toNat + 1)) g1x p11 (by omega)
theorem Zw.s37 {W : World} {n0 : Int} {a1 : Option Addr} {m1 c1 : Nat} {f1q0 : Nat → Bool} (r0 : R64 n0) (h1 : SlcOk W a1 m1 c1 1 (fun i => [.bool (f1q0 i)])) (b1 : (m1 : Int) < 9223372036854775808) : ∀ k : Nat, (∀ {x1 : Int} (g1x : R64 x1) (p11 : (0 ≤ x1 ∧ x1 ≤ 103)), (103 - x1) < k → NdGood Tryz.prog Tryz.f6 8 Tryz.H0 W Zw.p2 Zw.d37 [(.slice a1 m1 c1), (.int .i64 x1)]) := by
  intro k
  induction k with
  | zero =>
    intro x1 g1x p11 hk
    have ⟨gl1, gh1⟩ := g1x
    have ⟨rl0, rh0⟩ := r0
    have ⟨p11l, p11h⟩ := p11
    exfalso; omega
  | succ k ih =>
    have ih37 := @ih
    intro x1 g1x p11 hk
    have ⟨gl1, gh1⟩ := g1x
    have ⟨rl0, rh0⟩ := r0
    have ⟨p11l, p11h⟩ := p11
    by_cases q1 : x1 < (100 : Int)
    ·
      by_cases q2 : x1 < (m1 : Int)
      ·
        have l3 : (x1).toNat < m1 := by omega
        obtain ⟨p3, v3⟩ := h1.elem l3
        cases z4 : f1q0 (x1).toNat with
        | true =>
          obtain ⟨d5, e5, g5, o5⟩ := ex_add x1 (1 : Int)
          exact Zw.nx Zw.t144 [(.int .i64 (m1 : Int)), (.int .i64 d5)] [p3] (Zw.k2 _) ⟨Zw.hl rfl (by first | omega | assumption), Zw.hl rfl q1, hold_len (.atom _ _ rfl) (.atom _ _ rfl), hold_bool (.atom _ _ rfl) (.atom _ _ rfl) (op_lss_t q2), hold_idx v3 l3 (.atom _ _ rfl) (.atom _ _ rfl) (by omega) rfl, hold_op (.atom _ _ rfl) (.int _ _) o5 (.atom _ _ rfl), trivial⟩ Zw.i144 (rowsHold_cons (Elem.row v3 (VL.cons (vb z4) VL.nil)) rowsHold_nil) Zw.r144 (ih37 g5 (by constructor <;> omega) (by omega)) rfl rfl rfl rfl
        | false =>
          obtain ⟨d6, e6, g6, o6⟩ := ex_add x1 (1 : Int)
          exact Zw.nx Zw.t145 [(.int .i64 (m1 : Int)), (.int .i64 d6)] [p3] (Zw.k2 _) ⟨Zw.hl rfl (by first | omega | assumption), Zw.hl rfl q1, hold_len (.atom _ _ rfl) (.atom _ _ rfl), hold_bool (.atom _ _ rfl) (.atom _ _ rfl) (op_lss_t q2), hold_idx v3 l3 (.atom _ _ rfl) (.atom _ _ rfl) (by omega) rfl, hold_op (.atom _ _ rfl) (.int _ _) o6 (.atom _ _ rfl), trivial⟩ Zw.i145 (rowsHold_cons (Elem.row v3 (VL.cons (vb z4) VL.nil)) rowsHold_nil) Zw.r145 (Zw.n45 r0 h1 b1 g6 (by constructor <;> omega)) rfl rfl rfl rfl
      ·
        obtain ⟨d7, e7, g7, o7⟩ := ex_add x1 (1 : Int)
        exact Zw.nx Zw.t146 [(.int .i64 (m1 : Int)), (.int .i64 d7)] [] (Zw.k2 _) ⟨Zw.hl rfl (by first | omega | assumption), Zw.hl rfl q1, hold_len (.atom _ _ rfl) (.atom _ _ rfl), hold_bool (.atom _ _ rfl) (.atom _ _ rfl) (op_lss_f (Int.not_lt.1 q2)), hold_op (.atom _ _ rfl) (.int _ _) o7 (.atom _ _ rfl), trivial⟩ Zw.i146 rowsHold_nil Zw.r146 (Zw.n45 r0 h1 b1 g7 (by constructor <;> omega)) rfl rfl rfl rfl
    ·
      obtain ⟨d8, e8, g8, o8⟩ := ex_add x1 (1 : Int)
      exact Zw.nx Zw.t147 [(.int .i64 d8)] [] (Zw.k2 _) ⟨Zw.hl rfl (by first | omega | assumption), hold_bool (.atom _ _ rfl) (.int _ _) (op_lss_f (Int.not_lt.1 q1)), hold_op (.atom _ _ rfl) (.int _ _) o8 (.atom _ _ rfl), trivial⟩ Zw.i147 rowsHold_nil Zw.r147 (Zw.n45 r0 h1 b1 g8 (by constructor <;> omega)) rfl rfl rfl rfl
theorem Zw.n37 {W : World} {n0 : Int} {a1 : Option Addr} {m1 c1 : Nat} {f1q0 : Nat → Bool} (r0 : R64 n0) (h1 : SlcOk W a1 m1 c1 1 (fun i => [.bool (f1q0 i)])) (b1 : (m1 : Int) < 9223372036854775808) {x1 : Int} (g1x : R64 x1) (p11 : (0 ≤ x1 ∧ x1 ≤ 103)) : NdGood Tryz.prog Tryz.f6 8 Tryz.H0 W Zw.p2 Zw.d37 [(.slice a1 m1 c1), (.int .i64 x1)] :=
  (Zw.s37 r0 h1 b1 ((103 - x1).toNat + 1)) g1x p11 (by omega)
theorem Zw.s28 {W : World} {n0 : Int} {a1 : Option Addr} {m1 c1 : Nat} {f1q0 : Nat → Bool} (r0 : R64 n0) (h1 : SlcOk W a1 m1 c1 1 (fun i => [.bool (f1q0 i)])) (b1 : (m1 : Int) < 9223372036854775808) : ∀ k : Nat, (∀ {x1 : Int} (g1x : R64 x1) (p11 : (0 ≤ x1 ∧ x1 ≤ 102)), (102 - x1) < k → NdGood Tryz.prog Tryz.f6 8 Tryz.H0 W Zw.p2 Zw.d28 [(.slice a1 m1 c1), (.int .i64 x1)]) := by
  intro k
  induction k with
  | zero =>
    intro x1 g1x p11 hk
    have ⟨gl1, gh1⟩ := g1x
    have ⟨rl0, rh0⟩ := r0
    have ⟨p11l, p11h⟩ := p11
    exfalso; omega
  | succ k ih =>
    have ih28 := @ih
    intro x1 g1x p11 hk
    have ⟨gl1, gh1⟩ := g1x
    have ⟨rl0, rh0⟩ := r0
    have ⟨p11l, p11h⟩ := p11
    by_cases q1 : x1 < (100 : Int)
    ·
      by_cases q2 : x1 < (m1 : Int)
      ·
        have l3 : (x1).toNat < m1 := by omega
        obtain ⟨p3, v3⟩ := h1.elem l3
        cases z4 : f1q0 (x1).toNat with
        | true =>
          obtain ⟨d5, e5, g5, o5⟩ := ex_add x1 (1 : Int)
          exact Zw.nx Zw.t111 [(.int .i64 (m1 : Int)), (.int .i64 d5)] [p3] (Zw.k2 _) ⟨Zw.hl rfl (by first | omega | assumption), Zw.hl rfl q1, hold_len (.atom _ _ rfl) (.atom _ _ rfl), hold_bool (.atom _ _ rfl) (.atom _ _ rfl) (op_lss_t q2), hold_idx v3 l3 (.atom _ _ rfl) (.atom _ _ rfl) (by omega) rfl, hold_op (.atom _ _ rfl) (.int _ _) o5 (.atom _ _ rfl), trivial⟩ Zw.i111 (rowsHold_cons (Elem.row v3 (VL.cons (vb z4) VL.nil)) rowsHold_nil) Zw.r111 (ih28 g5 (by constructor <;> omega) (by omega)) rfl rfl rfl rfl
        | false =>
          obtain ⟨d6, e6, g6, o6⟩ := ex_add x1 (1 : Int)
          exact Zw.nx Zw.t112 [(.int .i64 (m1 : Int)), (.int .i64 d6)] [p3] (Zw.k2 _) ⟨Zw.hl rfl (by first | omega | assumption), Zw.hl rfl q1, hold_len (.atom _ _ rfl) (.atom _ _ rfl), hold_bool (.atom _ _ rfl) (.atom _ _ rfl) (op_lss_t q2), hold_idx v3 l3 (.atom _ _ rfl) (.atom _ _ rfl) (by omega) rfl, hold_op (.atom _ _ rfl) (.int _ _) o6 (.atom _ _ rfl), trivial⟩ Zw.i112 (rowsHold_cons (Elem.row v3 (VL.cons (vb z4) VL.nil)) rowsHold_nil) Zw.r112 (Zw.n37 r0 h1 b1 g6 (by constructor <;> omega)) rfl rfl rfl rfl
      ·
        obtain ⟨d7, e7, g7, o7⟩ := ex_add x1 (1 : Int)
        exact Zw.nx Zw.t113 [(.int .i64 (m1 : Int)), (.int .i64 d7)] [] (Zw.k2 _) ⟨Zw.hl rfl (by first | omega | assumption), Zw.hl rfl q1, hold_len (.atom _ _ rfl) (.atom _ _ rfl), hold_bool (.atom _ _ rfl) (.atom _ _ rfl) (op_lss_f (Int.not_lt.1 q2)), hold_op (.atom _ _ rfl) (.int _ _) o7 (.atom _ _ rfl), trivial⟩ Zw.i113 rowsHold_nil Zw.r113 (Zw.n37 r0 h1 b1 g7 (by constructor <;> omega)) rfl rfl rfl rfl
    ·
      obtain ⟨d8, e8, g8, o8⟩ := ex_add x1 (1 : Int)
      exact Zw.nx Zw.t114 [(.int .i64 d8)] [] (Zw.k2 _) ⟨Zw.hl rfl (by first | omega | assumption), hold_bool (.atom _ _ rfl) (.int _ _) (op_lss_f (Int.not_lt.1 q1)), hold_op (.atom _ _ rfl) (.int _ _) o8 (.atom _ _ rfl), trivial⟩ Zw.i114 rowsHold_nil Zw.r114 (Zw.n37 r0 h1 b1 g8 (by constructor <;> omega)) rfl rfl rfl rfl
theorem Zw.n28 {W : World} {n0 : Int} {a1 : Option Addr} {m1 c1 : Nat} {f1q0 : Nat → Bool} (r0 : R64 n0) (h1 : SlcOk W a1 m1 c1 1 (fun i => [.bool (f1q0 i)])) (b1 : (m1 : Int) < 9223372036854775808) {x1 : Int} (g1x : R64 x1) (p11 : (0 ≤ x1 ∧ x1 ≤ 102)) : NdGood Tryz.prog Tryz.f6 8 Tryz.H0 W Zw.p2 Zw.d28 [(.slice a1 m1 c1), (.int .i64 x1)] :=
  (Zw.s28 r0 h1 b1 ((102 - x1).toNat + 1)) g1x p11 (by omega)
theorem Zw.s18 {W : World} {n0 : Int} {a1 : Option Addr} {m1 c1 : Nat} {f1q0 : Nat → Bool} (r0 : R64 n0) (h1 : SlcOk W a1 m1 c1 1 (fun i => [.bool (f1q0 i)])) (b1 : (m1 : Int) < 9223372036854775808) : ∀ k : Nat, (∀ {x1 : Int} (g1x : R64 x1) (p11 : (0 ≤ x1 ∧ x1 ≤ 101)), (101 - x1) < k → NdGood Tryz.prog Tryz.f6 8 Tryz.H0 W Zw.p2 Zw.d18 [(.slice a1 m1 c1), (.int .i64 x1)]) := by
  intro k
  induction k with
  | zero =>
    intro x1 g1x p11 hk
    have ⟨gl1, gh1⟩ := g1x
    have ⟨rl0, rh0⟩ := r0
    have ⟨p11l, p11h⟩ := p11
    exfalso; omega
  | succ k ih =>
    have ih18 := @ih
    intro x1 g1x p11 hk
    have ⟨gl1, gh1⟩ := g1x
    have ⟨rl0, rh0⟩ := r0
    have ⟨p11l, p11h⟩ := p11
    by_cases q1 : x1 < (100 : Int)
    ·
      by_cases q2 : x1 < (m1 : Int)
      ·
        have l3 : (x1).toNat < m1 := by omega
        obtain ⟨p3, v3⟩ := h1.elem l3
        cases z4 : f1q0 (x1).toNat with
        | true =>
          obtain ⟨d5, e5, g5, o5⟩ := ex_add x1 (1 : Int)
          exact Zw.nx Zw.t74 [(.int .i64 (m1 : Int)), (.int .i64 d5)] [p3] (Zw.k2 _) ⟨Zw.hl rfl (by first | omega | assumption), Zw.hl rfl q1, hold_len (.atom _ _ rfl) (.atom _ _ rfl), hold_bool (.atom _ _ rfl) (.atom _ _ rfl) (op_lss_t q2), hold_idx v3 l3 (.atom _ _ rfl) (.atom _ _ rfl) (by omega) rfl, hold_op (.atom _ _ rfl) (.int _ _) o5 (.atom _ _ rfl), trivial⟩ Zw.i74 (rowsHold_cons (Elem.row v3 (VL.cons (vb z4) VL.nil)) rowsHold_nil) Zw.r74 (ih18 g5 (by constructor <;> omega) (by omega)) rfl rfl rfl rfl
        | false =>
          obtain ⟨d6, e6, g6, o6⟩ := ex_add x1 (1 : Int)
          exact Zw.nx Zw.t75 [(.int .i64 (m1 : Int)), (.int .i64 d6)] [p3] (Zw.k2 _) ⟨Zw.hl rfl (by first | omega | assumption), Zw.hl rfl q1, hold_len (.atom _ _ rfl) (.atom _ _ rfl), hold_bool (.atom _ _ rfl) (.atom _ _ rfl) (op_lss_t q2), hold_idx v3 l3 (.atom _ _ rfl) (.atom _ _ rfl) (by omega) rfl, hold_op (.atom _ _ rfl) (.int _ _) o6 (.atom _ _ rfl), trivial⟩ Zw.i75 (rowsHold_cons (Elem.row v3 (VL.cons (vb z4) VL.nil)) rowsHold_nil) Zw.r75 (Zw.n28 r0 h1 b1 g6 (by constructor <;> omega)) rfl rfl rfl rfl
      ·
        obtain ⟨d7, e7, g7, o7⟩ := ex_add x1 (1 : Int)
        exact Zw.nx Zw.t76 [(.int .i64 (m1 : Int)), (.int .i64 d7)] [] (Zw.k2 _) ⟨Zw.hl rfl (by first | omega | assumption), Zw.hl rfl q1, hold_len (.atom _ _ rfl) (.atom _ _ rfl), hold_bool (.atom _ _ rfl) (.atom _ _ rfl) (op_lss_f (Int.not_lt.1 q2)), hold_op (.atom _ _ rfl) (.int _ _) o7 (.atom _ _ rfl), trivial⟩ Zw.i76 rowsHold_nil Zw.r76 (Zw.n28 r0 h1 b1 g7 (by constructor <;> omega)) rfl rfl rfl rfl
    ·
      obtain ⟨d8, e8, g8, o8⟩ := ex_add x1 (1 : Int)
      exact Zw.nx Zw.t77 [(.int .i64 d8)] [] (Zw.k2 _) ⟨Zw.hl rfl (by first | omega | assumption), hold_bool (.atom _ _ rfl) (.int _ _) (op_lss_f (Int.not_lt.1 q1)), hold_op (.atom _ _ rfl) (.int _ _) o8 (.atom _ _ rfl), trivial⟩ Zw.i77 rowsHold_nil Zw.r77 (Zw.n28 r0 h1 b1 g8 (by constructor <;> omega)) rfl rfl rfl rfl
theorem Zw.n18 {W : World} {n0 : Int} {a1 : Option Addr} {m1 c1 : Nat} {f1q0 : Nat → Bool} (r0 : R64 n0) (h1 : SlcOk W a1 m1 c1 1 (fun i => [.bool (f1q0 i)])) (b1 : (m1 : Int) < 9223372036854775808) {x1 : Int} (g1x : R64 x1) (p11 : (0 ≤ x1 ∧ x1 ≤ 101)) : NdGood Tryz.prog Tryz.f6 8 Tryz.H0 W Zw.p2 Zw.d18 [(.slice a1 m1 c1), (.int .i64 x1)] :=
  (Zw.s18 r0 h1 b1 ((101 - x1).toNat + 1)) g1x p11 (by omega)
theorem Zw.s7 {W : World} {n0 : Int} {a1 : Option Addr} {m1 c1 : Nat} {f1q0 : Nat → Bool} (r0 : R64 n0) (h1 : SlcOk W a1 m1 c1 1 (fun i => [.bool (f1q0 i)])) (b1 : (m1 : Int) < 9223372036854775808) : ∀ k : Nat, (∀ {x1 : Int} (g1x : R64 x1) (p11 : (0 ≤ x1 ∧ x1 ≤ 100)), (100 - x1) < k → NdGood Tryz.prog Tryz.f6 8 Tryz.H0 W Zw.p2 Zw.d7 [(.slice a1 m1 c1), (.int .i64 x1)]) := by
  intro k
  induction k with
  | zero =>
    intro x1 g1x p11 hk
    have ⟨gl1, gh1⟩ := g1x
    have ⟨rl0, rh0⟩ := r0
    have ⟨p11l, p11h⟩ := p11
    exfalso; omega
  | succ k ih =>
    have ih7 := @ih
    intro x1 g1x p11 hk
    have ⟨gl1, gh1⟩ := g1x
    have ⟨rl0, rh0⟩ := r0
    have ⟨p11l, p11h⟩ := p11
    by_cases q1 : x1 < (100 : Int)
    ·
      by_cases q2 : x1 < (m1 : Int)
      ·
        have l3 : (x1).toNat < m1 := by omega
        obtain ⟨p3, v3⟩ := h1.elem l3
        cases z4 : f1q0 (x1).toNat with
        | true =>
          obtain ⟨d5, e5, g5, o5⟩ := ex_add x1 (1 : Int)
          exact Zw.nx Zw.t33 [(.int .i64 (m1 : Int)), (.int .i64 d5)] [p3] (Zw.k2 _) ⟨Zw.hl rfl (by first | omega | assumption), Zw.hl rfl q1, hold_len (.atom _ _ rfl) (.atom _ _ rfl), hold_bool (.atom _ _ rfl) (.atom _ _ rfl) (op_lss_t q2), hold_idx v3 l3 (.atom _ _ rfl) (.atom _ _ rfl) (by omega) rfl, hold_op (.atom _ _ rfl) (.int _ _) o5 (.atom _ _ rfl), trivial⟩ Zw.i33 (rowsHold_cons (Elem.row v3 (VL.cons (vb z4) VL.nil)) rowsHold_nil) Zw.r33 (ih7 g5 (by constructor <;> omega) (by omega)) rfl rfl rfl rfl
        | false =>
          obtain ⟨d6, e6, g6, o6⟩ := ex_add x1 (1 : Int)
          exact Zw.nx Zw.t34 [(.int .i64 (m1 : Int)), (.int .i64 d6)] [p3] (Zw.k2 _) ⟨Zw.hl rfl (by first | omega | assumption), Zw.hl rfl q1, hold_len (.atom _ _ rfl) (.atom _ _ rfl), hold_bool (.atom _ _ rfl) (.atom _ _ rfl) (op_lss_t q2), hold_idx v3 l3 (.atom _ _ rfl) (.atom _ _ rfl) (by omega) rfl, hold_op (.atom _ _ rfl) (.int _ _) o6 (.atom _ _ rfl), trivial⟩ Zw.i34 (rowsHold_cons (Elem.row v3 (VL.cons (vb z4) VL.nil)) rowsHold_nil) Zw.r34 (Zw.n18 r0 h1 b1 g6 (by constructor <;> omega)) rfl rfl rfl rfl
      ·
        obtain ⟨d7, e7, g7, o7⟩ := ex_add x1 (1 : Int)
        exact Zw.nx Zw.t35 [(.int .i64 (m1 : Int)), (.int .i64 d7)] [] (Zw.k2 _) ⟨Zw.hl rfl (by first | omega | assumption), Zw.hl rfl q1, hold_len (.atom _ _ rfl) (.atom _ _ rfl), hold_bool (.atom _ _ rfl) (.atom _ _ rfl) (op_lss_f (Int.not_lt.1 q2)), hold_op (.atom _ _ rfl) (.int _ _) o7 (.atom _ _ rfl), trivial⟩ Zw.i35 rowsHold_nil Zw.r35 (Zw.n18 r0 h1 b1 g7 (by constructor <;> omega)) rfl rfl rfl rfl
    ·
      obtain ⟨d8, e8, g8, o8⟩ := ex_add x1 (1 : Int)
      exact Zw.nx Zw.t36 [(.int .i64 d8)] [] (Zw.k2 _) ⟨Zw.hl rfl (by first | omega | assumption), hold_bool (.atom _ _ rfl) (.int _ _) (op_lss_f (Int.not_lt.1 q1)), hold_op (.atom _ _ rfl) (.int _ _) o8 (.atom _ _ rfl), trivial⟩ Zw.i36 rowsHold_nil Zw.r36 (Zw.n18 r0 h1 b1 g8 (by constructor <;> omega)) rfl rfl rfl rfl
theorem Zw.n7 {W : World} {n0 : Int} {a1 : Option Addr} {m1 c1 : Nat} {f1q0 : Nat → Bool} (r0 : R64 n0) (h1 : SlcOk W a1 m1 c1 1 (fun i => [.bool (f1q0 i)])) (b1 : (m1 : Int) < 9223372036854775808) {x1 : Int} (g1x : R64 x1) (p11 : (0 ≤ x1 ∧ x1 ≤ 100)) : NdGood Tryz.prog Tryz.f6 8 Tryz.H0 W Zw.p2 Zw.d7 [(.slice a1 m1 c1), (.int .i64 x1)] :=
  (Zw.s7 r0 h1 b1 ((100 - x1).toNat + 1)) g1x p11 (by omega)
theorem Zw.n64 {W : World} {n0 : Int} {a1 : Option Addr} {m1 c1 : Nat} {f1q0 : Nat → Bool} (r0 : R64 n0) (h1 : SlcOk W a1 m1 c1 1 (fun i => [.bool (f1q0 i)])) (b1 : (m1 : Int) < 9223372036854775808) {x1 : Int} (g1x : R64 x1) (p11 : (0 ≤ x1 ∧ x1 ≤ 107)) : NdGood Tryz.prog Tryz.f6 8 Tryz.H0 W Zw.p2 Zw.d64 [(.slice a1 m1 c1), (.int .i64 x1)] := by
  have ⟨gl1, gh1⟩ := g1x
  have ⟨rl0, rh0⟩ := r0
  have ⟨p11l, p11h⟩ := p11
  exact Zw.fx Zw.t243 [] [] (Zw.k2 _) ⟨Zw.hl rfl (by first | omega | assumption), trivial⟩ Zw.i243 rfl rfl rowsHold_nil Zw.r243
theorem Zw.s59 {W : World} {n0 : Int} {a1 : Option Addr} {m1 c1 : Nat} {f1q0 : Nat → Bool} (r0 : R64 n0) (h1 : SlcOk W a1 m1 c1 1 (fun i => [.bool (f1q0 i)])) (b1 : (m1 : Int) < 9223372036854775808) : ∀ k : Nat, (∀ {x1 : Int} (g1x : R64 x1) (p11 : (0 ≤ x1 ∧ x1 ≤ 106)), (106 - x1) < k → NdGood Tryz.prog Tryz.f6 8 Tryz.H0 W Zw.p2 Zw.d59 [(.slice a1 m1 c1), (.int .i64 x1)]) := by
  intro k
  induction k with
  | zero =>
    intro x1 g1x p11 hk
    have ⟨gl1, gh1⟩ := g1x
    have ⟨rl0, rh0⟩ := r0
    have ⟨p11l, p11h⟩ := p11
    exfalso; omega
  | succ k ih =>
    have ih59 := @ih
    intro x1 g1x p11 hk
    have ⟨gl1, gh1⟩ := g1x
    have ⟨rl0, rh0⟩ := r0
    have ⟨p11l, p11h⟩ := p11
    by_cases q1 : x1 < (100 : Int)
    ·
      by_cases q2 : x1 < (m1 : Int)
      ·
        have l3 : (x1).toNat < m1 := by omega
        obtain ⟨p3, v3⟩ := h1.elem l3
        cases z4 : f1q0 (x1).toNat with
        | true =>
          obtain ⟨d5, e5, g5, o5⟩ := ex_add x1 (1 : Int)
          exact Zw.nx Zw.t223 [(.int .i64 (m1 : Int)), (.int .i64 d5)] [p3] (Zw.k2 _) ⟨Zw.hl rfl (by first | omega | assumption), Zw.hl rfl q1, hold_len (.atom _ _ rfl) (.atom _ _ rfl), hold_bool (.atom _ _ rfl) (.atom _ _ rfl) (op_lss_t q2), hold_idx v3 l3 (.atom _ _ rfl) (.atom _ _ rfl) (by omega) rfl, hold_op (.atom _ _ rfl) (.int _ _) o5 (.atom _ _ rfl), trivial⟩ Zw.i223 (rowsHold_cons (Elem.row v3 (VL.cons (vb z4) VL.nil)) rowsHold_nil) Zw.r223 (ih59 g5 (by constructor <;> omega) (by omega)) rfl rfl rfl rfl
        | false =>
          obtain ⟨d6, e6, g6, o6⟩ := ex_add x1 (1 : Int)
          exact Zw.nx Zw.t224 [(.int .i64 (m1 : Int)), (.int .i64 d6)] [p3] (Zw.k2 _) ⟨Zw.hl rfl (by first | omega | assumption), Zw.hl rfl q1, hold_len (.atom _ _ rfl) (.atom _ _ rfl), hold_bool (.atom _ _ rfl) (.atom _ _ rfl) (op_lss_t q2), hold_idx v3 l3 (.atom _ _ rfl) (.atom _ _ rfl) (by omega) rfl, hold_op (.atom _ _ rfl) (.int _ _) o6 (.atom _ _ rfl), trivial⟩ Zw.i224 (rowsHold_cons (Elem.row v3 (VL.cons (vb z4) VL.nil)) rowsHold_nil) Zw.r224 (Zw.n64 r0 h1 b1 g6 (by constructor <;> omega)) rfl rfl rfl rfl
      ·
        obtain ⟨d7, e7, g7, o7⟩ := ex_add x1 (1 : Int)
        exact Zw.nx Zw.t225 [(.int .i64 (m1 : Int)), (.int .i64 d7)] [] (Zw.k2 _) ⟨Zw.hl rfl (by first | omega | assumption), Zw.hl rfl q1, hold_len (.atom _ _ rfl) (.atom _ _ rfl), hold_bool (.atom _ _ rfl) (.atom _ _ rfl) (op_lss_f (Int.not_lt.1 q2)), hold_op (.atom _ _ rfl) (.int _ _) o7 (.atom _ _ rfl), trivial⟩ Zw.i225 rowsHold_nil Zw.r225 (Zw.n64 r0 h1 b1 g7 (by constructor <;> omega)) rfl rfl rfl rfl
    ·
      obtain ⟨d8, e8, g8, o8⟩ := ex_add x1 (1 : Int)
      exact Zw.nx Zw.t226 [(.int .i64 d8)] [] (Zw.k2 _) ⟨Zw.hl rfl (by first | omega | assumption), hold_bool (.atom _ _ rfl) (.int _ _) (op_lss_f (Int.not_lt.1 q1)), hold_op (.atom _ _ rfl) (.int _ _) o8 (.atom _ _ rfl), trivial⟩ Zw.i226 rowsHold_nil Zw.r226 (Zw.n64 r0 h1 b1 g8 (by constructor <;> omega)) rfl rfl rfl rfl
theorem Zw.n59 {W : World} {n0 : Int} {a1 : Option Addr} {m1 c1 : Nat} {f1q0 : Nat → Bool} (r0 : R64 n0) (h1 : SlcOk W a1 m1 c1 1 (fun i => [.bool (f1q0 i)])) (b1 : (m1 : Int) < 9223372036854775808) {x1 : Int} (g1x : R64 x1) (p11 : (0 ≤ x1 ∧ x1 ≤ 106)) : NdGood Tryz.prog Tryz.f6 8 Tryz.H0 W Zw.p2 Zw.d59 [(.slice a1 m1 c1), (.int .i64 x1)] :=
  (Zw.s59 r0 h1 b1 ((106 - x1).toNat + 1)) g1x p11 (by omega)
theorem Zw.s53 {W : World} {n0 : Int} {a1 : Option Addr} {m1 c1 : Nat} {f1q0 : Nat → Bool} (r0 : R64 n0) (h1 : SlcOk W a1 m1 c1 1 (fun i => [.bool (f1q0 i)])) (b1 : (m1 : Int) < 9223372036854775808) : ∀ k : Nat, (∀ {x1 : Int} (g1x : R64 x1) (p11 : (0 ≤ x1 ∧ x1 ≤ 105)), (105 - x1) < k → NdGood Tryz.prog Tryz.f6 8 Tryz.H0 W Zw.p2 Zw.d53 [(.slice a1 m1 c1), (.int .i64 x1)]) := by
  intro k
  induction k with
  | zero =>
    intro x1 g1x p11 hk
    have ⟨gl1, gh1⟩ := g1x
    have ⟨rl0, rh0⟩ := r0
    have ⟨p11l, p11h⟩ := p11
    exfalso; omega
  | succ k ih =>
    have ih53 := @ih
    intro x1 g1x p11 hk
    have ⟨gl1, gh1⟩ := g1x
    have ⟨rl0, rh0⟩ := r0
    have ⟨p11l, p11h⟩ := p11
    by_cases q1 : x1 < (100 : Int)
    ·
      by_cases q2 : x1 < (m1 : Int)
      ·
        have l3 : (x1).toNat < m1 := by omega
        obtain ⟨p3, v3⟩ := h1.elem l3
        cases z4 : f1q0 (x1).toNat with
        | true =>
          obtain ⟨d5, e5, g5, o5⟩ := ex_add x1 (1 : Int)
          exact Zw.nx Zw.t202 [(.int .i64 (m1 : Int)), (.int .i64 d5)] [p3] (Zw.k2 _) ⟨Zw.hl rfl (by first | omega | assumption), Zw.hl rfl q1, hold_len (.atom _ _ rfl) (.atom _ _ rfl), hold_bool (.atom _ _ rfl) (.atom _ _ rfl) (op_lss_t q2), hold_idx v3 l3 (.atom _ _ rfl) (.atom _ _ rfl) (by omega) rfl, hold_op (.atom _ _ rfl) (.int _ _) o5 (.atom _ _ rfl), trivial⟩ Zw.i202 (rowsHold_cons (Elem.row v3 (VL.cons (vb z4) VL.nil)) rowsHold_nil) Zw.r202 (ih53 g5 (by constructor <;> omega) (by omega)) rfl rfl rfl rfl
        | false =>
          obtain ⟨d6, e6, g6, o6⟩ := ex_add x1 (1 : Int)
          exact Zw.nx Zw.t203 [(.int .i64 (m1 : Int)), (.int .i64 d6)] [p3] (Zw.k2 _) ⟨Zw.hl rfl (by first | omega | assumption), Zw.hl rfl q1, hold_len (.atom _ _ rfl) (.atom _ _ rfl), hold_bool (.atom _ _ rfl) (.atom _ _ rfl) (op_lss_t q2), hold_idx v3 l3 (.atom _ _ rfl) (.atom _ _ rfl) (by omega) rfl, hold_op (.atom _ _ rfl) (.int _ _) o6 (.atom _ _ rfl), trivial⟩ Zw.i203 (rowsHold_cons (Elem.row v3 (VL.cons (vb z4) VL.nil)) rowsHold_nil) Zw.r203 (Zw.n59 r0 h1 b1 g6 (by constructor <;> omega)) rfl rfl rfl rfl
      ·
        obtain ⟨d7, e7, g7, o7⟩ := ex_add x1 (1 : Int)
        exact Zw.nx Zw.t204 [(.int .i64 (m1 : Int)), (.int .i64 d7)] [] (Zw.k2 _) ⟨Zw.hl rfl (by first | omega | assumption), Zw.hl rfl q1, hold_len (.atom _ _ rfl) (.atom _ _ rfl), hold_bool (.atom _ _ rfl) (.atom _ _ rfl) (op_lss_f (Int.not_lt.1 q2)), hold_op (.atom _ _ rfl) (.int _ _) o7 (.atom _ _ rfl), trivial⟩ Zw.i204 rowsHold_nil Zw.r204 (Zw.n59 r0 h1 b1 g7 (by constructor <;> omega)) rfl rfl rfl rfl
    ·
      obtain ⟨d8, e8, g8, o8⟩ := ex_add x1 (1 : Int)
      exact Zw.nx Zw.t205 [(.int .i64 d8)] [] (Zw.k2 _) ⟨Zw.hl rfl (by first | omega | assumption), hold_bool (.atom _ _ rfl) (.int _ _) (op_lss_f (Int.not_lt.1 q1)), hold_op (.atom _ _ rfl) (.int _ _) o8 (.atom _ _ rfl), trivial⟩ Zw.i205 rowsHold_nil Zw.r205 (Zw.n59 r0 h1 b1 g8 (by constructor <;> omega)) rfl rfl rfl rfl
theorem Zw.n53 {W : World} {n0 : Int} {a1 : Option Addr} {m1 c1 : Nat} {f1q0 : Nat → Bool} (r0 : R64 n0) (h1 : SlcOk W a1 m1 c1 1 (fun i => [.bool (f1q0 i)])) (b1 : (m1 : Int) < 9223372036854775808) {x1 : Int} (g1x : R64 x1) (p11 : (0 ≤ x1 ∧ x1 ≤ 105)) : NdGood Tryz.prog Tryz.f6 8 Tryz.H0 W Zw.p2 Zw.d53 [(.slice a1 m1 c1), (.int .i64 x1)] :=
  (Zw.s53 r0 h1 b1 ((105 - x1).toNat + 1)) g1x p11 (by omega)
theorem Zw.s46 {W : World} {n0 : Int} {a1 : Option Addr} {m1 c1 : Nat} {f1q0 : Nat → Bool} (r0 : R64 n0) (h1 : SlcOk W a1 m1 c1 1 (fun i => [.bool (f1q0 i)])) (b1 : (m1 : Int) < 9223372036854775808) : ∀ k : Nat, (∀ {x1 : Int} (g1x : R64 x1) (p11 : (0 ≤ x1 ∧ x1 ≤ 104)), (104 - x1) < k → NdGood Tryz.prog Tryz.f6 8 Tryz.H0 W Zw.p2 Zw.d46 [(.slice a1 m1 c1), (.int .i64 x1)]) := by
  intro k
  induction k with
  | zero =>
    intro x1 g1x p11 hk
    have ⟨gl1, gh1⟩ := g1x
    have ⟨rl0, rh0⟩ := r0
    have ⟨p11l, p11h⟩ := p11
    exfalso; omega
  | succ k ih =>
    have ih46 := @ih
    intro x1 g1x p11 hk
    have ⟨gl1, gh1⟩ := g1x
    have ⟨rl0, rh0⟩ := r0
    have ⟨p11l, p11h⟩ := p11
    by_cases q1 : x1 < (100 : Int)
    ·
      by_cases q2 : x1 < (m1 : Int)
      ·
        have l3 : (x1).toNat < m1 := by omega
        obtain ⟨p3, v3⟩ := h1.elem l3
        cases z4 : f1q0 (x1).toNat with
        | true =>
          obtain ⟨d5, e5, g5, o5⟩ := ex_add x1 (1 : Int)
          exact Zw.nx Zw.t177 [(.int .i64 (m1 : Int)), (.int .i64 d5)] [p3] (Zw.k2 _) ⟨Zw.hl rfl (by first | omega | assumption), Zw.hl rfl q1, hold_len (.atom _ _ rfl) (.atom _ _ rfl), hold_bool (.atom _ _ rfl) (.atom _ _ rfl) (op_lss_t q2), hold_idx v3 l3 (.atom _ _ rfl) (.atom _ _ rfl) (by omega) rfl, hold_op (.atom _ _ rfl) (.int _ _) o5 (.atom _ _ rfl), trivial⟩ Zw.i177 (rowsHold_cons (Elem.row v3 (VL.cons (vb z4) VL.nil)) rowsHold_nil) Zw.r177 (ih46 g5 (by constructor <;> omega) (by omega)) rfl rfl rfl rfl
        | false =>
          obtain ⟨d6, e6, g6, o6⟩ := ex_add x1 (1 : Int)
          exact Zw.nx Zw.t178 [(.int .i64 (m1 : Int)), (.int .i64 d6)] [p3] (Zw.k2 _) ⟨Zw.hl rfl (by first | omega | assumption), Zw.hl rfl q1, hold_len (.atom _ _ rfl) (.atom _ _ rfl), hold_bool (.atom _ _ rfl) (.atom _ _ rfl) (op_lss_t q2), hold_idx v3 l3 (.atom _ _ rfl) (.atom _ _ rfl) (by omega) rfl, hold_op (.atom _ _ rfl) (.int _ _) o6 (.atom _ _ rfl), trivial⟩ Zw.i178 (rowsHold_cons (Elem.row v3 (VL.cons (vb z4) VL.nil)) rowsHold_nil) Zw.r178 (Zw.n53 r0 h1 b1 g6 (by constructor <;> omega)) rfl rfl rfl rfl
      ·
        obtain ⟨d7, e7, g7, o7⟩ := ex_add x1 (1 : Int)
        exact Zw.nx Zw.t179 [(.int .i64 (m1 : Int)), (.int .i64 d7)] [] (Zw.k2 _) ⟨Zw.hl rfl (by first | omega | assumption), Zw.hl rfl q1, hold_len (.atom _ _ rfl) (.atom _ _ rfl), hold_bool (.atom _ _ rfl) (.atom _ _ rfl) (op_lss_f (Int.not_lt.1 q2)), hold_op (.atom _ _ rfl) (.int _ _) o7 (.atom _ _ rfl), trivial⟩ Zw.i179 rowsHold_nil Zw.r179 (Zw.n53 r0 h1 b1 g7 (by constructor <;> omega)) rfl rfl rfl rfl
    ·
      obtain ⟨d8, e8, g8, o8⟩ := ex_add x1 (1 : Int)
      exact Zw.nx Zw.t180 [(.int .i64 d8)] [] (Zw.k2 _) ⟨Zw.hl rfl (by first | omega | assumption), hold_bool (.atom _ _ rfl) (.int _ _) (op_lss_f (Int.not_lt.1 q1)), hold_op (.atom _ _ rfl) (.int _ _) o8 (.atom _ _ rfl), trivial⟩ Zw.i180 rowsHold_nil Zw.r180 (Zw.n53 r0 h1 b1 g8 (by constructor <;> omega)) rfl rfl rfl rfl
theorem Zw.n46 {W : World} {n0 : Int} {a1 : Option Addr} {m1 c1 : Nat} {f1q0 : Nat → Bool} (r0 : R64 n0) (h1 : SlcOk W a1 m1 c1 1 (fun i => [.bool (f1q0 i)])) (b1 : (m1 : Int) < 9223372036854775808) {x1 : Int} (g1x : R64 x1) (p11 : (0 ≤ x1 ∧ x1 ≤ 104)) : NdGood Tryz.prog Tryz.f6 8 Tryz.H0 W Zw.p2 Zw.d46 [(.slice a1 m1 c1), (.int .i64 x1)] :=
  (Zw.s46 r0 h1 b1 ((104 - x1).toNat + 1)) g1x p11 (by omega)
theorem Zw.s38 {W : World} {n0 : Int} {a1 : Option Addr} {m1 c1 : Nat} {f1q0 : Nat → Bool} (r0 : R64 n0) (h1 : SlcOk W a1 m1 c1 1 (fun i => [.bool (f1q0 i)])) (b1 : (m1 : Int) < 9223372036854775808) : ∀ k : Nat, (∀ {x1 : Int} (g1x : R64 x1) (p11 : (0 ≤ x1 ∧ x1 ≤ 103)), (103 - x1) < k → NdGood Tryz.prog Tryz.f6 8 Tryz.H0 W Zw.p2 Zw.d38 [(.slice a1 m1 c1), (.int .i64 x1)]) := by
  intro k
  induction k with
  | zero =>
    intro x1 g1x p11 hk
    have ⟨gl1, gh1⟩ := g1x
    have ⟨rl0, rh0⟩ := r0
    have ⟨p11l, p11h⟩ := p11
    exfalso; omega
  | succ k ih =>
    have ih38 := @ih
    intro x1 g1x p11 hk
    have ⟨gl1, gh1⟩ := g1x
    have ⟨rl0, rh0⟩ := r0
    have ⟨p11l, p11h⟩ := p11
    by_cases q1 : x1 < (100 : Int)
    ·
      by_cases q2 : x1 < (m1 : Int)
      ·
        have l3 : (x1).toNat < m1 := by omega
        obtain ⟨p3, v3⟩ := h1.elem l3
        cases z4 : f1q0 (x1).toNat with
        | true =>
          obtain ⟨d5, e5, g5, o5⟩ := ex_add x1 (1 : Int)
          exact Zw.nx Zw.t148 [(.int .i64 (m1 : Int)), (.int .i64 d5)] [p3] (Zw.k2 _) ⟨Zw.hl rfl (by first | omega | assumption), Zw.hl rfl q1, hold_len (.atom _ _ rfl) (.atom _ _ rfl), hold_bool (.atom _ _ rfl) (.atom _ _ rfl) (op_lss_t q2), hold_idx v3 l3 (.atom _ _ rfl) (.atom _ _ rfl) (by omega) rfl, hold_op (.atom _ _ rfl) (.int _ _) o5 (.atom _ _ rfl), trivial⟩ Zw.i148 (rowsHold_cons (Elem.row v3 (VL.cons (vb z4) VL.nil)) rowsHold_nil) Zw.r148 (ih38 g5 (by constructor <;> omega) (by omega)) rfl rfl rfl rfl
        | false =>
          obtain ⟨d6, e6, g6, o6⟩ := ex_add x1 (1 : Int)
          exact Zw.nx Zw.t149 [(.int .i64 (m1 : Int)), (.int .i64 d6)] [p3] (Zw.k2 _) ⟨Zw.hl rfl (by first | omega | assumption), Zw.hl rfl q1, hold_len (.atom _ _ rfl) (.atom _ _ rfl), hold_bool (.atom _ _ rfl) (.atom _ _ rfl) (op_lss_t q2), hold_idx v3 l3 (.atom _ _ rfl) (.atom _ _ rfl) (by omega) rfl, hold_op (.atom _ _ rfl) (.int _ _) o6 (.atom _ _ rfl), trivial⟩ Zw.i149 (rowsHold_cons (Elem.row v3 (VL.cons (vb z4) VL.nil)) rowsHold_nil) Zw.r149 (Zw.n46 r0 h1 b1 g6 (by constructor <;> omega)) rfl rfl rfl rfl
      ·
        obtain ⟨d7, e7, g7, o7⟩ := ex_add x1 (1 : Int)
        exact Zw.nx Zw.t150 [(.int .i64 (m1 : Int)), (.int .i64 d7)] [] (Zw.k2 _) ⟨Zw.hl rfl (by first | omega | assumption), Zw.hl rfl q1, hold_len (.atom _ _ rfl) (.atom _ _ rfl), hold_bool (.atom _ _ rfl) (.atom _ _ rfl) (op_lss_f (Int.not_lt.1 q2)), hold_op (.atom _ _ rfl) (.int _ _) o7 (.atom _ _ rfl), trivial⟩ Zw.i150 rowsHold_nil Zw.r150 (Zw.n46 r0 h1 b1 g7 (by constructor <;> omega)) rfl rfl rfl rfl
    ·
      obtain ⟨d8, e8, g8, o8⟩ := ex_add x1 (1 : Int)
      exact Zw.nx Zw.t151 [(.int .i64 d8)] [] (Zw.k2 _) ⟨Zw.hl rfl (by first | omega | assumption), hold_bool (.atom _ _ rfl) (.int _ _) (op_lss_f (Int.not_lt.1 q1)), hold_op (.atom _ _ rfl) (.int _ _) o8 (.atom _ _ rfl), trivial⟩ Zw.i151 rowsHold_nil Zw.r151 (Zw.n46 r0 h1 b1 g8 (by constructor <;> omega)) rfl rfl rfl rfl
theorem Zw.n38 {W : World} {n0 : Int} {a1 : Option Addr} {m1 c1 : Nat} {f1q0 : Nat → Bool} (r0 : R64 n0) (h1 : SlcOk W a1 m1 c1 1 (fun i => [.bool (f1q0 i)])) (b1 : (m1 : Int) < 9223372036854775808) {x1 : Int} (g1x : R64 x1) (p11 : (0 ≤ x1 ∧ x1 ≤ 103)) : NdGood Tryz.prog Tryz.f6 8 Tryz.H0 W Zw.p2 Zw.d38 [(.slice a1 m1 c1), (.int .i64 x1)] :=
  (Zw.s38 r0 h1 b1 ((103 - x1).toNat + 1)) g1x p11 (by omega)
theorem Zw.s29 {W : World} {n0 : Int} {a1 : Option Addr} {m1 c1 : Nat} {f1q0 : Nat → Bool} (r0 : R64 n0) (h1 : SlcOk W a1 m1 c1 1 (fun i => [.bool (f1q0 i)])) (b1 : (m1 : Int) < 9223372036854775808) : ∀ k : Nat, (∀ {x1 : Int} (g1x : R64 x1) (p11 : (0 ≤ x1 ∧ x1 ≤ 102)), (102 - x1) < k → NdGood Tryz.prog Tryz.f6 8 Tryz.H0 W Zw.p2 Zw.d29 [(.slice a1 m1 c1), (.int .i64 x1)]) := by
  intro k
  induction k with
  | zero =>
    intro x1 g1x p11 hk
    have ⟨gl1, gh1⟩ := g1x
    have ⟨rl0, rh0⟩ := r0
    have ⟨p11l, p11h⟩ := p11
    exfalso; omega
  | succ k ih =>
    have ih29 := @ih
    intro x1 g1x p11 hk
    have ⟨gl1, gh1⟩ := g1x
    have ⟨rl0, rh0⟩ := r0
    have ⟨p11l, p11h⟩ := p11
    by_cases q1 : x1 < (100 : Int)
    ·
      by_cases q2 : x1 < (m1 : Int)
      ·
        have l3 : (x1).toNat < m1 := by omega
        obtain ⟨p3, v3⟩ := h1.elem l3
        cases z4 : f1q0 (x1).toNat with
        | true =>
          obtain ⟨d5, e5, g5, o5⟩ := ex_add x1 (1 : Int)
          exact Zw.nx Zw.t115 [(.int .i64 (m1 : Int)), (.int .i64 d5)] [p3] (Zw.k2 _) ⟨Zw.hl rfl (by first | omega | assumption), Zw.hl rfl q1, hold_len (.atom _ _ rfl) (.atom _ _ rfl), hold_bool (.atom _ _ rfl) (.atom _ _ rfl) (op_lss_t q2), hold_idx v3 l3 (.atom _ _ rfl) (.atom _ _ rfl) (by omega) rfl, hold_op (.atom _ _ rfl) (.int _ _) o5 (.atom _ _ rfl), trivial⟩ Zw.i115 (rowsHold_cons (Elem.row v3 (VL.cons (vb z4) VL.nil)) rowsHold_nil) Zw.r115 (ih29 g5 (by constructor <;> omega) (by omega)) rfl rfl rfl rfl
        | false =>
          obtain ⟨d6, e6, g6, o6⟩ := ex_add x1 (1 : Int)
          exact Zw.nx Zw.t116 [(.int .i64 (m1 : Int)), (.int .i64 d6)] [p3] (Zw.k2 _) ⟨Zw.hl rfl (by first | omega | assumption), Zw.hl rfl q1, hold_len (.atom _ _ rfl) (.atom _ _ rfl), hold_bool (.atom _ _ rfl) (.atom _ _ rfl) (op_lss_t q2), hold_idx v3 l3 (.atom _ _ rfl) (.atom _ _ rfl) (by omega) rfl, hold_op (.atom _ _ rfl) (.int _ _) o6 (.atom _ _ rfl), trivial⟩ Zw.i116 (rowsHold_cons (Elem.row v3 (VL.cons (vb z4) VL.nil)) rowsHold_nil) Zw.r116 (Zw.n38 r0 h1 b1 g6 (by constructor <;> omega)) rfl rfl rfl rfl
      ·
        obtain ⟨d7, e7, g7, o7⟩ := ex_add x1 (1 : Int)
        exact Zw.nx Zw.t117 [(.int .i64 (m1 : Int)), (.int .i64 d7)] [] (Zw.k2 _) ⟨Zw.hl rfl (by first | omega | assumption), Zw.hl rfl q1, hold_len (.atom _ _ rfl) (.atom _ _ rfl), hold_bool (.atom _ _ rfl) (.atom _ _ rfl) (op_lss_f (Int.not_lt.1 q2)), hold_op (.atom _ _ rfl) (.int _ _) o7 (.atom _ _ rfl), trivial⟩ Zw.i117 rowsHold_nil Zw.r117 (Zw.n38 r0 h1 b1 g7 (by constructor <;> omega)) rfl rfl rfl rfl
    ·
      obtain ⟨d8, e8, g8, o8⟩ := ex_add x1 (1 : Int)
      exact Zw.nx Zw.t118 [(.int .i64 d8)] [] (Zw.k2 _) ⟨Zw.hl rfl (by first | omega | assumption), hold_bool (.atom _ _ rfl) (.int _ _) (op_lss_f (Int.not_lt.1 q1)), hold_op (.atom _ _ rfl) (.int _ _) o8 (.atom _ _ rfl), trivial⟩ Zw.i118 rowsHold_nil Zw.r118 (Zw.n38 r0 h1 b1 g8 (by constructor <;> omega)) rfl rfl rfl rfl
theorem Zw.n29 {W : World} {n0 : Int} {a1 : Option Addr} {m1 c1 : Nat} {f1q0 : Nat → Bool} (r0 : R64 n0) (h1 : SlcOk W a1 m1 c1 1 (fun i => [.bool (f1q0 i)])) (b1 : (m1 : Int) < 9223372036854775808) {x1 : Int} (g1x : R64 x1) (p11 : (0 ≤ x1 ∧ x1 ≤ 102)) : NdGood Tryz.prog Tryz.f6 8 Tryz.H0 W Zw.p2 Zw.d29 [(.slice a1 m1 c1), (.int .i64 x1)] :=
  (Zw.s29 r0 h1 b1 ((102 - x1).toNat + 1)) g1x p11 (by omega)
theorem Zw.s19 {W : World} {n0 : Int} {a1 : Option Addr} {m1 c1 : Nat} {f1q0 : Nat → Bool} (r0 : R64 n0) (h1 : SlcOk W a1 m1 c1 1 (fun i => [.bool (f1q0 i)])) (b1 : (m1 : Int) < 9223372036854775808) : ∀ k : Nat, (∀ {x1 : Int} (g1x : R64 x1) (p11 : (0 ≤ x1 ∧ x1 ≤ 101)), (101 - x1) < k → NdGood Tryz.prog Tryz.f6 8 Tryz.H0 W Zw.p2 Zw.d19 [(.slice a1 m1 c1), (.int .i64 x1)]) := by
  intro k
  induction k with
  | zero =>
    intro x1 g1x p11 hk
    have ⟨gl1, gh1⟩ := g1x
    have ⟨rl0, rh0⟩ := r0
    have ⟨p11l, p11h⟩ := p11
    exfalso; omega
  | succ k ih =>
    have ih19 := @ih
    intro x1 g1x p11 hk
    have ⟨gl1, gh1⟩ := g1x
    have ⟨rl0, rh0⟩ := r0
    have ⟨p11l, p11h⟩ := p11
    by_cases q1 : x1 < (100 : Int)
    ·
      by_cases q2 : x1 < (m1 : Int)
      ·
        have l3 : (x1).toNat < m1 := by omega
        obtain ⟨p3, v3⟩ := h1.elem l3
        cases z4 : f1q0 (x1).toNat with
        | true =>
          obtain ⟨d5, e5, g5, o5⟩ := ex_add x1 (1 : Int)
          exact Zw.nx Zw.t78 [(.int .i64 (m1 : Int)), (.int .i64 d5)] [p3] (Zw.k2 _) ⟨Zw.hl rfl (by first | omega | assumption), Zw.hl rfl q1, hold_len (.atom _ _ rfl) (.atom _ _ rfl), hold_bool (.atom _ _ rfl) (.atom _ _ rfl) (op_lss_t q2), hold_idx v3 l3 (.atom _ _ rfl) (.atom _ _ rfl) (by omega) rfl, hold_op (.atom _ _ rfl) (.int _ _) o5 (.atom _ _ rfl), trivial⟩ Zw.i78 (rowsHold_cons (Elem.row v3 (VL.cons (vb z4) VL.nil)) rowsHold_nil) Zw.r78 (ih19 g5 (by constructor <;> omega) (by omega)) rfl rfl rfl rfl
        | false =>
          obtain ⟨d6, e6, g6, o6⟩ := ex_add x1 (1 : Int)
          exact Zw.nx Zw.t79 [(.int .i64 (m1 : Int)), (.int .i64 d6)] [p3] (Zw.k2 _) ⟨Zw.hl rfl (by first | omega | assumption), Zw.hl rfl q1, hold_len (.atom _ _ rfl) (.atom _ _ rfl), hold_bool (.atom _ _ rfl) (.atom _ _ rfl) (op_lss_t q2), hold_idx v3 l3 (.atom _ _ rfl) (.atom _ _ rfl) (by omega) rfl, hold_op (.atom _ _ rfl) (.int _ _) o6 (.atom _ _ rfl), trivial⟩ Zw.i79 (rowsHold_cons (Elem.row v3 (VL.cons (vb z4) VL.nil)) rowsHold_nil) Zw.r79 (Zw.n29 r0 h1 b1 g6 (by constructor <;> omega)) rfl rfl rfl rfl
      ·
        obtain ⟨d7, e7, g7, o7⟩ := ex_add x1 (1 : Int)
        exact Zw.nx Zw.t80 [(.int .i64 (m1 : Int)), (.int .i64 d7)] [] (Zw.k2 _) ⟨Zw.hl rfl (by first | omega | assumption), Zw.hl rfl q1, hold_len (.atom _ _ rfl) (.atom _ _ rfl), hold_bool (.atom _ _ rfl) (.atom _ _ rfl) (op_lss_f (Int.not_lt.1 q2)), hold_op (.atom _ _ rfl) (.int _ _) o7 (.atom _ _ rfl), trivial⟩ Zw.i80 rowsHold_nil Zw.r80 (Zw.n29 r0 h1 b1 g7 (by constructor <;> omega)) rfl rfl rfl rfl
    ·
      obtain ⟨d8, e8, g8, o8⟩ := ex_add x1 (1 : Int)
      exact Zw.nx Zw.t81 [(.int .i64 d8)] [] (Zw.k2 _) ⟨Zw.hl rfl (by first | omega | assumption), hold_bool (.atom _ _ rfl) (.int _ _) (op_lss_f (Int.not_lt.1 q1)), hold_op (.atom _ _ rfl) (.int _ _) o8 (.atom _ _ rfl), trivial⟩ Zw.i81 rowsHold_nil Zw.r81 (Zw.n29 r0 h1 b1 g8 (by constructor <;> omega)) rfl rfl rfl rfl
theorem Zw.n19 {W : World} {n0 : Int} {a1 : Option Addr} {m1 c1 : Nat} {f1q0 : Nat → Bool} (r0 : R64 n0) (h1 : SlcOk W a1 m1 c1 1 (fun i => [.bool (f1q0 i)])) (b1 : (m1 : Int) < 9223372036854775808) {x1 : Int} (g1x : R64 x1) (p11 : (0 ≤ x1 ∧ x1 ≤ 101)) : NdGood Tryz.prog Tryz.f6 8 Tryz.H0 W Zw.p2 Zw.d19 [(.slice a1 m1 c1), (.int .i64 x1)] :=
  (Zw.s19 r0 h1 b1 ((101 - x1).toNat + 1)) g1x p11 (by omega)
theorem Zw.s8 {W : World} {n0 : Int} {a1 : Option Addr} {m1 c1 : Nat} {f1q0 : Nat → Bool} (r0 : R64 n0) (h1 : SlcOk W a1 m1 c1 1 (fun i => [.bool (f1q0 i)])) (b1 : (m1 : Int) < 9223372036854775808) : ∀ k : Nat, (∀ {x1 : Int} (g1x : R64 x1) (p11 : (0 ≤ x1 ∧ x1 ≤ 100)), (100 - x1) < k → NdGood Tryz.prog Tryz.f6 8 Tryz.H0 W Zw.p2 Zw.d8 [(.slice a1 m1 c1), (.int .i64 x1)]) := by
  intro k
  induction k with
  | zero =>
    intro x1 g1x p11 hk
    have ⟨gl1, gh1⟩ := g1x
    have ⟨rl0, rh0⟩ := r0
    have ⟨p11l, p11h⟩ := p11
    exfalso; omega
  | succ k ih =>
    have ih8 := @ih
    intro x1 g1x p11 hk
    have ⟨gl1, gh1⟩ := g1x
    have ⟨rl0, rh0⟩ := r0
    have ⟨p11l, p11h⟩ := p11
    by_cases q1 : x1 < (100 : Int)
    ·
      by_cases q2 : x1 < (m1 : Int)
      ·
        have l3 : (x1).toNat < m1 := by omega
        obtain ⟨p3, v3⟩ := h1.elem l3
        cases z4 : f1q0 (x1).toNat with
        | true =>
          obtain ⟨d5, e5, g5, o5⟩ := ex_add x1 (1 : Int)
          exact Zw.nx Zw.t37 [(.int .i64 (m1 : Int)), (.int .i64 d5)] [p3] (Zw.k2 _) ⟨Zw.hl rfl (by first | omega | assumption), Zw.hl rfl q1, hold_len (.atom _ _ rfl) (.atom _ _ rfl), hold_bool (.atom _ _ rfl) (.atom _ _ rfl) (op_lss_t q2), hold_idx v3 l3 (.atom _ _ rfl) (.atom _ _ rfl) (by omega) rfl, hold_op (.atom _ _ rfl) (.int _ _) o5 (.atom _ _ rfl), trivial⟩ Zw.i37 (rowsHold_cons (Elem.row v3 (VL.cons (vb z4) VL.nil)) rowsHold_nil) Zw.r37 (ih8 g5 (by constructor <;> omega) (by omega)) rfl rfl rfl rfl
        | false =>
          obtain ⟨d6, e6, g6, o6⟩ := ex_add x1 (1 : Int)
          exact Zw.nx Zw.t38 [(.int .i64 (m1 : Int)), (.int .i64 d6)] [p3] (Zw.k2 _) ⟨Zw.hl rfl (by first | omega | assumption), Zw.hl rfl q1, hold_len (.atom _ _ rfl) (.atom _ _ rfl), hold_bool (.atom _ _ rfl) (.atom _ _ rfl) (op_lss_t q2), hold_idx v3 l3 (.atom _ _ rfl) (.atom _ _ rfl) (by omega) rfl, hold_op (.atom _ _ rfl) (.int _ _) o6 (.atom _ _ rfl), trivial⟩ Zw.i38 (rowsHold_cons (Elem.row v3 (VL.cons (vb z4) VL.nil)) rowsHold_nil) Zw.r38 (Zw.n19 r0 h1 b1 g6 (by constructor <;> omega)) rfl rfl rfl rfl
      ·
        obtain ⟨d7, e7, g7, o7⟩ := ex_add x1 (1 : Int)
        exact Zw.nx Zw.t39 [(.int .i64 (m1 : Int)), (.int .i64 d7)] [] (Zw.k2 _) ⟨Zw.hl rfl (by first | omega | assumption), Zw.hl rfl q1, hold_len (.atom _ _ rfl) (.atom _ _ rfl), hold_bool (.atom _ _ rfl) (.atom _ _ rfl) (op_lss_f (Int.not_lt.1 q2)), hold_op (.atom _ _ rfl) (.int _ _) o7 (.atom _ _ rfl), trivial⟩ Zw.i39 rowsHold_nil Zw.r39 (Zw.n19 r0 h1 b1 g7 (by constructor <;> omega)) rfl rfl rfl rfl
    ·
      obtain ⟨d8, e8, g8, o8⟩ := ex_add x1 (1 : Int)
      exact Zw.nx Zw.t40 [(.int .i64 d8)] [] (Zw.k2 _) ⟨Zw.hl rfl (by first | omega | assumption), hold_bool (.atom _ _ rfl) (.int _ _) (op_lss_f (Int.not_lt.1 q1)), hold_op (.atom _ _ rfl) (.int _ _) o8 (.atom _ _ rfl), trivial⟩ Zw.i40 rowsHold_nil Zw.r40 (Zw.n19 r0 h1 b1 g8 (by constructor <;> omega)) rfl rfl rfl rfl
theorem Zw.n8 {W : World} {n0 : Int} {a1 : Option Addr} {m1 c1 : Nat} {f1q0 : Nat → Bool} (r0 : R64 n0) (h1 : SlcOk W a1 m1 c1 1 (fun i => [.bool (f1q0 i)])) (b1 : (m1 : Int) < 9223372036854775808) {x1 : Int} (g1x : R64 x1) (p11 : (0 ≤ x1 ∧ x1 ≤ 100)) : NdGood Tryz.prog Tryz.f6 8 Tryz.H0 W Zw.p2 Zw.d8 [(.slice a1 m1 c1), (.int .i64 x1)] :=
  (Zw.s8 r0 h1 b1 ((100 - x1).toNat + 1)) g1x p11 (by omega)
theorem Zw.n69 {W : World} {n0 : Int} {a1 : Option Addr} {m1 c1 : Nat} {f1q0 : Nat → Bool} (r0 : R64 n0) (h1 : SlcOk W a1 m1 c1 1 (fun i => [.bool (f1q0 i)])) (b1 : (m1 : Int) < 9223372036854775808) {x1 : Int} (g1x : R64 x1) (p11 : (0 ≤ x1 ∧ x1 ≤ 108)) : NdGood Tryz.prog Tryz.f6 8 Tryz.H0 W Zw.p2 Zw.d69 [(.slice a1 m1 c1), (.int .i64 x1)] := by
  have ⟨gl1, gh1⟩ := g1x
  have ⟨rl0, rh0⟩ := r0
  have ⟨p11l, p11h⟩ := p11
  exact Zw.fx Zw.t260 [] [] (Zw.k2 _) ⟨Zw.hl rfl (by first | omega | assumption), trivial⟩ Zw.i260 rfl rfl rowsHold_nil Zw.r260
theorem Zw.s65 {W : World} {n0 : Int} {a1 : Option Addr} {m1 c1 : Nat} {f1q0 : Nat → Bool} (r0 : R64 n0) (h1 : SlcOk W a1 m1 c1 1 (fun i => [.bool (f1q0 i)])) (b1 : (m1 : Int) < 9223372036854775808) : ∀ k : Nat, (∀ {x1 : Int} (g1x : R64 x1) (p11 : (0 ≤ x1 ∧ x1 ≤ 107)), (107 - x1) < k → NdGood Tryz.prog Tryz.f6 8 Tryz.H0 W Zw.p2 Zw.d65 [(.slice a1 m1 c1), (.int .i64 x1)]) := by
  intro k
  induction k with
  | zero =>
    intro x1 g1x p11 hk
    have ⟨gl1, gh1⟩ := g1x
    have ⟨rl0, rh0⟩ := r0
    have ⟨p11l, p11h⟩ := p11
    exfalso; omega
  | succ k ih =>
    have ih65 := @ih
    intro x1 g1x p11 hk
    have ⟨gl1, gh1⟩ := g1x
    have ⟨rl0, rh0⟩ := r0
    have ⟨p11l, p11h⟩ := p11
    by_cases q1 : x1 < (100 : Int)
    ·
      by_cases q2 : x1 < (m1 : Int)
      ·
        have l3 : (x1).toNat < m1 := by omega
        obtain ⟨p3, v3⟩ := h1.elem l3
        cases z4 : f1q0 (x1).toNat with
        | true =>
          obtain ⟨d5, e5, g5, o5⟩ := ex_add x1 (1 : Int)
          exact Zw.nx Zw.t244 [(.int .i64 (m1 : Int)), (.int .i64 d5)] [p3] (Zw.k2 _) ⟨Zw.hl rfl (by first | omega | assumption), Zw.hl rfl q1, hold_len (.atom _ _ rfl) (.atom _ _ rfl), hold_bool (.atom _ _ rfl) (.atom _ _ rfl) (op_lss_t q2), hold_idx v3 l3 (.atom _ _ rfl) (.atom _ _ rfl) (by omega) rfl, hold_op (.atom _ _ rfl) (.int _ _) o5 (.atom _ _ rfl), trivial⟩ Zw.i244 (rowsHold_cons (Elem.row v3 (VL.cons (vb z4) VL.nil)) rowsHold_nil) Zw.r244 (ih65 g5 (by constructor <;> omega) (by omega)) rfl rfl rfl rfl
        | false =>
          obtain ⟨d6, e6, g6, o6⟩ := ex_add x1 (1 : Int)
          exact Zw.nx Zw.t245 [(.int .i64 (m1 : Int)), (.int .i64 d6)] [p3] (Zw.k2 _) ⟨Zw.hl rfl (by first | omega | assumption), Zw.hl rfl q1, hold_len (.atom _ _ rfl) (.atom _ _ rfl), hold_bool (.atom _ _ rfl) (.atom _ _ rfl) (op_lss_t q2), hold_idx v3 l3 (.atom _ _ rfl) (.atom _ _ rfl) (by omega) rfl, hold_op (.atom _ _ rfl) (.int _ _) o6 (.atom _ _ rfl), trivial⟩ Zw.i245 (rowsHold_cons (Elem.row v3 (VL.cons (vb z4) VL.nil)) rowsHold_nil) Zw.r245 (Zw.n69 r0 h1 b1 g6 (by constructor <;> omega)) rfl rfl rfl rfl
      ·
        obtain ⟨d7, e7, g7, o7⟩ := ex_add x1 (1 : Int)
        exact Zw.nx Zw.t246 [(.int .i64 (m1 : Int)), (.int .i64 d7)] [] (Zw.k2 _) ⟨Zw.hl rfl (by first | omega | assumption), Zw.hl rfl q1, hold_len (.atom _ _ rfl) (.atom _ _ rfl), hold_bool (.atom _ _ rfl) (.atom _ _ rfl) (op_lss_f (Int.not_lt.1 q2)), hold_op (.atom _ _ rfl) (.int _ _) o7 (.atom _ _ rfl), trivial⟩ Zw.i246 rowsHold_nil Zw.r246 (Zw.n69 r0 h1 b1 g7 (by constructor <;> omega)) rfl rfl rfl rfl
    ·
      obtain ⟨d8, e8, g8, o8⟩ := ex_add x1 (1 : Int)
      exact Zw.nx Zw.t247 [(.int .i64 d8)] [] (Zw.k2 _) ⟨Zw.hl rfl (by first | omega | assumption), hold_bool (.atom _ _ rfl) (.int _ _) (op_lss_f (Int.not_lt.1 q1)), hold_op (.atom _ _ rfl) (.int _ _) o8 (.atom _ _ rfl), trivial⟩ Zw.i247 rowsHold_nil Zw.r247 (Zw.n69 r0 h1 b1 g8 (by constructor <;> omega)) rfl rfl rfl rfl
theorem Zw.n65 {W : World} {n0 : Int} {a1 : Option Addr} {m1 c1 : Nat} {f1q0 : Nat → Bool} (r0 : R64 n0) (h1 : SlcOk W a1 m1 c1 1 (fun i => [.bool (f1q0 i)])) (b1 : (m1 : Int) < 9223372036854775808) {x1 : Int} (g1x : R64 x1) (p11 : (0 ≤ x1 ∧ x1 ≤ 107)) : NdGood Tryz.prog Tryz.f6 8 Tryz.H0 W Zw.p2 Zw.d65 [(.slice a1 m1 c1), (.int .i64 x1)] :=
  (Zw.s65 r0 h1 b1 ((107 - x1).toNat + 1)) g1x p11 (by omega)
theorem Zw.s60 {W : World} {n0 : Int} {a1 : Option Addr} {m1 c1 : Nat} {f1q0 : Nat → Bool} (r0 : R64 n0) (h1 : SlcOk W a1 m1 c1 1 (fun i => [.bool (f1q0 i)])) (b1 : (m1 : Int) < 9223372036854775808) : ∀ k : Nat, (∀ {x1 : Int} (g1x : R64 x1) (p11 : (0 ≤ x1 ∧ x1 ≤ 106)), (106 - x1) < k → NdGood Tryz.prog Tryz.f6 8 Tryz.H0 W Zw.p2 Zw.d60 [(.slice a1 m1 c1), (.int .i64 x1)]) := by
  intro k
  induction k with
  | zero =>
    intro x1 g1x p11 hk
    have ⟨gl1, gh1⟩ := g1x
    have ⟨rl0, rh0⟩ := r0
    have ⟨p11l, p11h⟩ := p11
    exfalso; omega
  | succ k ih =>
    have ih60 := @ih
    intro x1 g1x p11 hk
    have ⟨gl1, gh1⟩ := g1x
    have ⟨rl0, rh0⟩ := r0
    have ⟨p11l, p11h⟩ := p11
    by_cases q1 : x1 < (100 : Int)
    ·
      by_cases q2 : x1 < (m1 : Int)
      ·
        have l3 : (x1).toNat < m1 := by omega
        obtain ⟨p3, v3⟩ := h1.elem l3
        cases z4 : f1q0 (x1).toNat with
        | true =>
          obtain ⟨d5, e5, g5, o5⟩ := ex_add x1 (1 : Int)
          exact Zw.nx Zw.t227 [(.int .i64 (m1 : Int)), (.int .i64 d5)] [p3] (Zw.k2 _) ⟨Zw.hl rfl (by first | omega | assumption), Zw.hl rfl q1, hold_len (.atom _ _ rfl) (.atom _ _ rfl), hold_bool (.atom _ _ rfl) (.atom _ _ rfl) (op_lss_t q2), hold_idx v3 l3 (.atom _ _ rfl) (.atom _ _ rfl) (by omega) rfl, hold_op (.atom _ _ rfl) (.int _ _) o5 (.atom _ _ rfl), trivial⟩ Zw.i227 (rowsHold_cons (Elem.row v3 (VL.cons (vb z4) VL.nil)) rowsHold_nil) Zw.r227 (ih60 g5 (by constructor <;> omega) (by omega)) rfl rfl rfl rfl
        | false =>
          obtain ⟨d6, e6, g6, o6⟩ := ex_add x1 (1 : Int)
          exact Zw.nx Zw.t228 [(.int .i64 (m1 : Int)), (.int .i64 d6)] [p3] (Zw.k2 _) ⟨Zw.hl rfl (by first | omega | assumption), Zw.hl rfl q1, hold_len (.atom _ _ rfl) (.atom _ _ rfl), hold_bool (.atom _ _ rfl) (.atom _ _ rfl) (op_lss_t q2), hold_idx v3 l3 (.atom _ _ rfl) (.atom _ _ rfl) (by omega) rfl, hold_op (.atom _ _ rfl) (.int _ _) o6 (.atom _ _ rfl), trivial⟩ Zw.i228 (rowsHold_cons (Elem.row v3 (VL.cons (vb z4) VL.nil)) rowsHold_nil) Zw.r228 (Zw.n65 r0 h1 b1 g6 (by constructor <;> omega)) rfl rfl rfl rfl
      ·
        obtain ⟨d7, e7, g7, o7⟩ := ex_add x1 (1 : Int)
        exact Zw.nx Zw.t229 [(.int .i64 (m1 : Int)), (.int .i64 d7)] [] (Zw.k2 _) ⟨Zw.hl rfl (by first | omega | assumption), Zw.hl rfl q1, hold_len (.atom _ _ rfl) (.atom _ _ rfl), hold_bool (.atom _ _ rfl) (.atom _ _ rfl) (op_lss_f (Int.not_lt.1 q2)), hold_op (.atom _ _ rfl) (.int _ _) o7 (.atom _ _ rfl), trivial⟩ Zw.i229 rowsHold_nil Zw.r229 (Zw.n65 r0 h1 b1 g7 (by constructor <;> omega)) rfl rfl rfl rfl
    ·
      obtain ⟨d8, e8, g8, o8⟩ := ex_add x1 (1 : Int)
      exact Zw.nx Zw.t230 [(.int .i64 d8)] [] (Zw.k2 _) ⟨Zw.hl rfl (by first | omega | assumption), hold_bool (.atom _ _ rfl) (.int _ _) (op_lss_f (Int.not_lt.1 q1)), hold_op (.atom _ _ rfl) (.int _ _) o8 (.atom _ _ rfl), trivial⟩ Zw.i230 rowsHold_nil Zw.r230 (Zw.n65 r0 h1 b1 g8 (by constructor <;> omega)) rfl rfl rfl rfl
theorem Zw.n60 {W : World} {n0 : Int} {a1 : Option Addr} {m1 c1 : Nat} {f1q0 : Nat → Bool} (r0 : R64 n0) (h1 : SlcOk W a1 m1 c1 1 (fun i => [.bool (f1q0 i)])) (b1 : (m1 : Int) < 9223372036854775808) {x1 : Int} (g1x : R64 x1) (p11 : (0 ≤ x1 ∧ x1 ≤ 106)) : NdGood Tryz.prog Tryz.f6 8 Tryz.H0 W Zw.p2 Zw.d60 [(.slice a1 m1 c1), (.int .i64 x1)] :=
  (Zw.s60 r0 h1 b1 ((106 - x1).toNat + 1)) g1x p11 (by omega)
theorem Zw.s54 {W : World} {n0 : Int} {a1 : Option Addr} {m1 c1 : Nat} {f1q0 : Nat → Bool} (r0 : R64 n0) (h1 : SlcOk W a1 m1 c1 1 (fun i => [.bool (f1q0 i)])) (b1 : (m1 : Int) < 9223372036854775808) : ∀ k : Nat, (∀ {x1 : Int} (g1x : R64 x1) (p11 : (0 ≤ x1 ∧ x1 ≤ 105)), (105 - x1) < k → NdGood Tryz.prog Tryz.f6 8 Tryz.H0 W Zw.p2 Zw.d54 [(.slice a1 m1 c1), (.int .i64 x1)]) := by
  intro k
  induction k with
  | zero =>
    intro x1 g1x p11 hk
    have ⟨gl1, gh1⟩ := g1x
    have ⟨rl0, rh0⟩ := r0
    have ⟨p11l, p11h⟩ := p11
    exfalso; omega
  | succ k ih =>
    have ih54 := @ih
    intro x1 g1x p11 hk
    have ⟨gl1, gh1⟩ := g1x
    have ⟨rl0, rh0⟩ := r0
    have ⟨p11l, p11h⟩ := p11
    by_cases q1 : x1 < (100 : Int)
    ·
      by_cases q2 : x1 < (m1 : Int)
      ·
        have l3 : (x1).toNat < m1 := by omega
        obtain ⟨p3, v3⟩ := h1.elem l3
        cases z4 : f1q0 (x1).toNat with
        | true =>
          obtain ⟨d5, e5, g5, o5⟩ := ex_add x1 (1 : Int)
          exact Zw.nx Zw.t206 [(.int .i64 (m1 : Int)), (.int .i64 d5)] [p3] (Zw.k2 _) ⟨Zw.hl rfl (by first | omega | assumption), Zw.hl rfl q1, hold_len (.atom _ _ rfl) (.atom _ _ rfl), hold_bool (.atom _ _ rfl) (.atom _ _ rfl) (op_lss_t q2), hold_idx v3 l3 (.atom _ _ rfl) (.atom _ _ rfl) (by omega) rfl, hold_op (.atom _ _ rfl) (.int _ _) o5 (.atom _ _ rfl), trivial⟩ Zw.i206 (rowsHold_cons (Elem.row v3 (VL.cons (vb z4) VL.nil)) rowsHold_nil) Zw.r206 (ih54 g5 (by constructor <;> omega) (by omega)) rfl rfl rfl rfl
        | false =>
          obtain ⟨d6, e6, g6, o6⟩ := ex_add x1 (1 : Int)
          exact Zw.nx Zw.t207 [(.int .i64 (m1 : Int)), (.int .i64 d6)] [p3] (Zw.k2 _) ⟨Zw.hl rfl (by first | omega | assumption), Zw.hl rfl q1, hold_len (.atom _ _ rfl) (.atom _ _ rfl), hold_bool (.atom _ _ rfl) (.atom _ _ rfl) (op_lss_t q2), hold_idx v3 l3 (.atom _ _ rfl) (.atom _ _ rfl) (by omega) rfl, hold_op (.atom _ _ rfl) (.int _ _) o6 (.atom _ _ rfl), trivial⟩ Zw.i207 (rowsHold_cons (Elem.row v3 (VL.cons (vb z4) VL.nil)) rowsHold_nil) Zw.r207 (Zw.n60 r0 h1 b1 g6 (by constructor <;> omega)) rfl rfl rfl rfl
      ·
        obtain ⟨d7, e7, g7, o7⟩ := ex_add x1 (1 : Int)
        exact Zw.nx Zw.t208 [(.int .i64 (m1 : Int)), (.int .i64 d7)] [] (Zw.k2 _) ⟨Zw.hl rfl (by first | omega | assumption), Zw.hl rfl q1, hold_len (.atom _ _ rfl) (.atom _ _ rfl), hold_bool (.atom _ _ rfl) (.atom _ _ rfl) (op_lss_f (Int.not_lt.1 q2)), hold_op (.atom _ _ rfl) (.int _ _) o7 (.atom _ _ rfl), trivial⟩ Zw.i208 rowsHold_nil Zw.r208 (Zw.n60 r0 h1 b1 g7 (by constructor <;> omega)) rfl rfl rfl rfl
    ·
      obtain ⟨d8, e8, g8, o8⟩ := ex_add x1 (1 : Int)
      exact Zw.nx Zw.t209 [(.int .i64 d8)] [] (Zw.k2 _) ⟨Zw.hl rfl (by first | omega | assumption), hold_bool (.atom _ _ rfl) (.int _ _) (op_lss_f (Int.not_lt.1 q1)), hold_op (.atom _ _ rfl) (.int _ _) o8 (.atom _ _ rfl), trivial⟩ Zw.i209 rowsHold_nil Zw.r209 (Zw.n60 r0 h1 b1 g8 (by constructor <;> omega)) rfl rfl rfl rfl
theorem Zw.n54 {W : World} {n0 : Int} {a1 : Option Addr} {m1 c1 : Nat} {f1q0 : Nat → Bool} (r0 : R64 n0) (h1 : SlcOk W a1 m1 c1 1 (fun i => [.bool (f1q0 i)])) (b1 : (m1 : Int) < 9223372036854775808) {x1 : Int} (g1x : R64 x1) (p11 : (0 ≤ x1 ∧ x1 ≤ 105)) : NdGood Tryz.prog Tryz.f6 8 Tryz.H0 W Zw.p2 Zw.d54 [(.slice a1 m1 c1), (.int .i64 x1)] :=
  (Zw.s54 r0 h1 b1 ((105 - x1).toNat + 1)) g1x p11 (by omega)
theorem Zw.s47 {W : World} {n0 : Int} {a1 : Option Addr} {m1 c1 : Nat} {f1q0 : Nat → Bool} (r0 : R64 n0) (h1 : SlcOk W a1 m1 c1 1 (fun i => [.bool (f1q0 i)])) (b1 : (m1 : Int) < 9223372036854775808) : ∀ k : Nat, (∀ {x1 : Int} (g1x : R64 x1) (p11 : (0 ≤ x1 ∧ x1 ≤ 104)), (104 - x1) < k → NdGood Tryz.prog Tryz.f6 8 Tryz.H0 W Zw.p2 Zw.d47 [(.slice a1 m1 c1), (.int .i64 x1)]) := by
  intro k
  induction k with
  | zero =>
    intro x1 g1x p11 hk
    have ⟨gl1, gh1⟩ := g1x
    have ⟨rl0, rh0⟩ := r0
    have ⟨p11l, p11h⟩ := p11
    exfalso; omega
  | succ k ih =>
    have ih47 := @ih
    intro x1 g1x p11 hk
    have ⟨gl1, gh1⟩ := g1x
    have ⟨rl0, rh0⟩ := r0
    have ⟨p11l, p11h⟩ := p11
    by_cases q1 : x1 < (100 : Int)
    ·
      by_cases q2 : x1 < (m1 : Int)
      ·
        have l3 : (x1).toNat < m1 := by omega
        obtain ⟨p3, v3⟩ := h1.elem l3
        cases z4 : f1q0 (x1).toNat with
        | true =>
          obtain ⟨d5, e5, g5, o5⟩ := ex_add x1 (1 : Int)
          exact Zw.nx Zw.t181 [(.int .i64 (m1 : Int)), (.int .i64 d5)] [p3] (Zw.k2 _) ⟨Zw.hl rfl (by first | omega | assumption), Zw.hl rfl q1, hold_len (.atom _ _ rfl) (.atom _ _ rfl), hold_bool (.atom _ _ rfl) (.atom _ _ rfl) (op_lss_t q2), hold_idx v3 l3 (.atom _ _ rfl) (.atom _ _ rfl) (by omega) rfl, hold_op (.atom _ _ rfl) (.int _ _) o5 (.atom _ _ rfl), trivial⟩ Zw.i181 (rowsHold_cons (Elem.row v3 (VL.cons (vb z4) VL.nil)) rowsHold_nil) Zw.r181 (ih47 g5 (by constructor <;> omega) (by omega)) rfl rfl rfl rfl
        | false =>
          obtain ⟨d6, e6, g6, o6⟩ := ex_add x1 (1 : Int)
          exact Zw.nx Zw.t182 [(.int .i64 (m1 : Int)), (.int .i64 d6)] [p3] (Zw.k2 _) ⟨Zw.hl rfl (by first | omega | assumption), Zw.hl rfl q1, hold_len (.atom _ _ rfl) (.atom _ _ rfl), hold_bool (.atom _ _ rfl) (.atom _ _ rfl) (op_lss_t q2), hold_idx v3 l3 (.atom _ _ rfl) (.atom _ _ rfl) (by omega) rfl, hold_op (.atom _ _ rfl) (.int _ _) o6 (.atom _ _ rfl), trivial⟩ Zw.i182 (rowsHold_cons (Elem.row v3 (VL.cons (vb z4) VL.nil)) rowsHold_nil) Zw.r182 (Zw.n54 r0 h1 b1 g6 (by constructor <;> omega)) rfl rfl rfl rfl
      ·
        obtain ⟨d7, e7, g7, o7⟩ := ex_add x1 (1 : Int)
        exact Zw.nx Zw.t183 [(.int .i64 (m1 : Int)), (.int .i64 d7)] [] (Zw.k2 _) ⟨Zw.hl rfl (by first | omega | assumption), Zw.hl rfl q1, hold_len (.atom _ _ rfl) (.atom _ _ rfl), hold_bool (.atom _ _ rfl) (.atom _ _ rfl) (op_lss_f (Int.not_lt.1 q2)), hold_op (.atom _ _ rfl) (.int _ _) o7 (.atom _ _ rfl), trivial⟩ Zw.i183 rowsHold_nil Zw.r183 (Zw.n54 r0 h1 b1 g7 (by constructor <;> omega)) rfl rfl rfl rfl
    ·
      obtain ⟨d8, e8, g8, o8⟩ := ex_add x1 (1 : Int)
      exact Zw.nx Zw.t184 [(.int .i64 d8)] [] (Zw.k2 _) ⟨Zw.hl rfl (by first | omega | assumption), hold_bool (.atom _ _ rfl) (.int _ _) (op_lss_f (Int.not_lt.1 q1)), hold_op (.atom _ _ rfl) (.int _ _) o8 (.atom _ _ rfl), trivial⟩ Zw.i184 rowsHold_nil Zw.r184 (Zw.n54 r0 h1 b1 g8 (by constructor <;> omega)) rfl rfl rfl rfl
theorem Zw.n47 {W : World} {n0 : Int} {a1 : Option Addr} {m1 c1 : Nat} {f1q0 : Nat → Bool} (r0 : R64 n0) (h1 : SlcOk W a1 m1 c1 1 (fun i => [.bool (f1q0 i)])) (b1 : (m1 : Int) < 9223372036854775808) {x1 : Int} (g1x : R64 x1) (p11 : (0 ≤ x1 ∧ x1 ≤ 104)) : NdGood Tryz.prog Tryz.f6 8 Tryz.H0 W Zw.p2 Zw.d47 [(.slice a1 m1 c1), (.int .i64 x1)] :=
  (Zw.s47 r0 h1 b1 ((104 - x1).toNat + 1)) g1x p11 (by omega)
theorem Zw.s39 {W : World} {n0 : Int} {a1 : Option Addr} {m1 c1 : Nat} {f1q0 : Nat → Bool} (r0 : R64 n0) (h1 : SlcOk W a1 m1 c1 1 (fun i => [.bool (f1q0 i)])) (b1 : (m1 : Int) < 9223372036854775808) : ∀ k : Nat, (∀ {x1 : Int} (g1x : R64 x1) (p11 : (0 ≤ x1 ∧ x1 ≤ 103)), (103 - x1) < k → NdGood Tryz.prog Tryz.f6 8 Tryz.H0 W Zw.p2 Zw.d39 [(.slice a1 m1 c1), (.int .i64 x1)]) := by
  intro k
  induction k with
  | zero =>
    intro x1 g1x p11 hk
    have ⟨gl1, gh1⟩ := g1x
    have ⟨rl0, rh0⟩ := r0
    have ⟨p11l, p11h⟩ := p11
    exfalso; omega
  | succ k ih =>
    have ih39 := @ih
    intro x1 g1x p11 hk
    have ⟨gl1, gh1⟩ := g1x
    have ⟨rl0, rh0⟩ := r0
    have ⟨p11l, p11h⟩ := p11
    by_cases q1 : x1 < (100 : Int)
    ·
      by_cases q2 : x1 < (m1 : Int)
      ·
        have l3 : (x1).toNat < m1 := by omega
        obtain ⟨p3, v3⟩ := h1.elem l3
        cases z4 : f1q0 (x1).toNat with
        | true =>
          obtain ⟨d5, e5, g5, o5⟩ := ex_add x1 (1 : Int)
          exact Zw.nx Zw.t152 [(.int .i64 (m1 : Int)), (.int .i64 d5)] [p3] (Zw.k2 _) ⟨Zw.hl rfl (by first | omega | assumption), Zw.hl rfl q1, hold_len (.atom _ _ rfl) (.atom _ _ rfl), hold_bool (.atom _ _ rfl) (.atom _ _ rfl) (op_lss_t q2), hold_idx v3 l3 (.atom _ _ rfl) (.atom _ _ rfl) (by omega) rfl, hold_op (.atom _ _ rfl) (.int _ _) o5 (.atom _ _ rfl), trivial⟩ Zw.i152 (rowsHold_cons (Elem.row v3 (VL.cons (vb z4) VL.nil)) rowsHold_nil) Zw.r152 (ih39 g5 (by constructor <;> omega) (by omega)) rfl rfl rfl rfl
        | false =>
          obtain ⟨d6, e6, g6, o6⟩ := ex_add x1 (1 : Int)
          exact Zw.nx Zw.t153 [(.int .i64 (m1 : Int)), (.int .i64 d6)] [p3] (Zw.k2 _) ⟨Zw.hl rfl (by first | omega | assumption), Zw.hl rfl q1, hold_len (.atom _ _ rfl) (.atom _ _ rfl), hold_bool (.atom _ _ rfl) (.atom _ _ rfl) (op_lss_t q2), hold_idx v3 l3 (.atom _ _ rfl) (.atom _ _ rfl) (by omega) rfl, hold_op (.atom _ _ rfl) (.int _ _) o6 (.atom _ _ rfl), trivial⟩ Zw.i153 (rowsHold_cons (Elem.row v3 (VL.cons (vb z4) VL.nil)) rowsHold_nil) Zw.r153 (Zw.n47 r0 h1 b1 g6 (by constructor <;> omega)) rfl rfl rfl rfl
      ·
        obtain ⟨d7, e7, g7, o7⟩ := ex_add x1 (1 : Int)
        exact Zw.nx Zw.t154 [(.int .i64 (m1 : Int)), (.int .i64 d7)] [] (Zw.k2 _) ⟨Zw.hl rfl (by first | omega | assumption), Zw.hl rfl q1, hold_len (.atom _ _ rfl) (.atom _ _ rfl), hold_bool (.atom _ _ rfl) (.atom _ _ rfl) (op_lss_f (Int.not_lt.1 q2)), hold_op (.atom _ _ rfl) (.int _ _) o7 (.atom _ _ rfl), trivial⟩ Zw.i154 rowsHold_nil Zw.r154 (Zw.n47 r0 h1 b1 g7 (by constructor <;> omega)) rfl rfl rfl rfl
    ·
      obtain ⟨d8, e8, g8, o8⟩ := ex_add x1 (1 : Int)
      exact Zw.nx Zw.t155 [(.int .i64 d8)] [] (Zw.k2 _) ⟨Zw.hl rfl (by first | omega | assumption), hold_bool (.atom _ _ rfl) (.int _ _) (op_lss_f (Int.not_lt.1 q1)), hold_op (.atom _ _ rfl) (.int _ _) o8 (.atom _ _ rfl), trivial⟩ Zw.i155 rowsHold_nil Zw.r155 (Zw.n47 r0 h1 b1 g8 (by constructor <;> omega)) rfl rfl rfl rfl
theorem Zw.n39 {W : World} {n0 : Int} {a1 : Option Addr} {m1 c1 : Nat} {f1q0 : Nat → Bool} (r0 : R64 n0) (h1 : SlcOk W a1 m1 c1 1 (fun i => [.bool (f1q0 i)])) (b1 : (m1 : Int) < 9223372036854775808) {x1 : Int} (g1x : R64 x1) (p11 : (0 ≤ x1 ∧ x1 ≤ 103)) : NdGood Tryz.prog Tryz.f6 8 Tryz.H0 W Zw.p2 Zw.d39 [(.slice a1 m1 c1), (.int .i64 x1)] :=
  (Zw.s39 r0 h1 b1 ((103 - x1).toNat + 1)) g1x p11 (by omega)
theorem Zw.s30 {W : World} {n0 : Int} {a1 : Option Addr} {m1 c1 : Nat} {f1q0 : Nat → Bool} (r0 : R64 n0) (h1 : SlcOk W a1 m1 c1 1 (fun i => [.bool (f1q0 i)])) (b1 : (m1 : Int) < 9223372036854775808) : ∀ k : Nat, (∀ {x1 : Int} (g1x : R64 x1) (p11 : (0 ≤ x1 ∧ x1 ≤ 102)), (102 - x1) < k → NdGood Tryz.prog Tryz.f6 8 Tryz.H0 W Zw.p2 Zw.d30 [(.slice a1 m1 c1), (.int .i64 x1)]) := by
  intro k
  induction k with
  | zero =>
    intro x1 g1x p11 hk
    have ⟨gl1, gh1⟩ := g1x
    have ⟨rl0, rh0⟩ := r0
    have ⟨p11l, p11h⟩ := p11
    exfalso; omega
  | succ k ih =>
    have ih30 := @ih
    intro x1 g1x p11 hk
    have ⟨gl1, gh1⟩ := g1x
    have ⟨rl0, rh0⟩ := r0
    have ⟨p11l, p11h⟩ := p11
    by_cases q1 : x1 < (100 : Int)
    ·
      by_cases q2 : x1 < (m1 : Int)
      ·
        have l3 : (x1).toNat < m1 := by omega
        obtain ⟨p3, v3⟩ := h1.elem l3
        cases z4 : f1q0 (x1).toNat with
        | true =>
          obtain ⟨d5, e5, g5, o5⟩ := ex_add x1 (1 : Int)
          exact Zw.nx Zw.t119 [(.int .i64 (m1 : Int)), (.int .i64 d5)] [p3] (Zw.k2 _) ⟨Zw.hl rfl (by first | omega | assumption), Zw.hl rfl q1, hold_len (.atom _ _ rfl) (.atom _ _ rfl), hold_bool (.atom _ _ rfl) (.atom _ _ rfl) (op_lss_t q2), hold_idx v3 l3 (.atom _ _ rfl) (.atom _ _ rfl) (by omega) rfl, hold_op (.atom _ _ rfl) (.int _ _) o5 (.atom _ _ rfl), trivial⟩ Zw.i119 (rowsHold_cons (Elem.row v3 (VL.cons (vb z4) VL.nil)) rowsHold_nil) Zw.r119 (ih30 g5 (by constructor <;> omega) (by omega)) rfl rfl rfl rfl
        | false =>
          obtain ⟨d6, e6, g6, o6⟩ := ex_add x1 (1 : Int)
          exact Zw.nx Zw.t120 [(.int .i64 (m1 : Int)), (.int .i64 d6)] [p3] (Zw.k2 _) ⟨Zw.hl rfl (by first | omega | assumption), Zw.hl rfl q1, hold_len (.atom _ _ rfl) (.atom _ _ rfl), hold_bool (.atom _ _ rfl) (.atom _ _ rfl) (op_lss_t q2), hold_idx v3 l3 (.atom _ _ rfl) (.atom _ _ rfl) (by omega) rfl, hold_op (.atom _ _ rfl) (.int _ _) o6 (.atom _ _ rfl), trivial⟩ Zw.i120 (rowsHold_cons (Elem.row v3 (VL.cons (vb z4) VL.nil)) rowsHold_nil) Zw.r120 (Zw.n39 r0 h1 b1 g6 (by constructor <;> omega)) rfl rfl rfl rfl
      ·
        obtain ⟨d7, e7, g7, o7⟩ := ex_add x1 (1 : Int)
        exact Zw.nx Zw.t121 [(.int .i64 (m1 : Int)), (.int .i64 d7)] [] (Zw.k2 _) ⟨Zw.hl rfl (by first | omega | assumption), Zw.hl rfl q1, hold_len (.atom _ _ rfl) (.atom _ _ rfl), hold_bool (.atom _ _ rfl) (.atom _ _ rfl) (op_lss_f (Int.not_lt.1 q2)), hold_op (.atom _ _ rfl) (.int _ _) o7 (.atom _ _ rfl), trivial⟩ Zw.i121 rowsHold_nil Zw.r121 (Zw.n39 r0 h1 b1 g7 (by constructor <;> omega)) rfl rfl rfl rfl
    ·
      obtain ⟨d8, e8, g8, o8⟩ := ex_add x1 (1 : Int)
      exact Zw.nx Zw.t122 [(.int .i64 d8)] [] (Zw.k2 _) ⟨Zw.hl rfl (by first | omega | assumption), hold_bool (.atom _ _ rfl) (.int _ _) (op_lss_f (Int.not_lt.1 q1)), hold_op (.atom _ _ rfl) (.int _ _) o8 (.atom _ _ rfl), trivial⟩ Zw.i122 rowsHold_nil Zw.r122 (Zw.n39 r0 h1 b1 g8 (by constructor <;> omega)) rfl rfl rfl rfl
theorem Zw.n30 {W : World} {n0 : Int} {a1 : Option Addr} {m1 c1 : Nat} {f1q0 : Nat → Bool} (r0 : R64 n0) (h1 : SlcOk W a1 m1 c1 1 (fun i => [.bool (f1q0 i)])) (b1 : (m1 : Int) < 9223372036854775808) {x1 : Int} (g1x : R64 x1) (p11 : (0 ≤ x1 ∧ x1 ≤ 102)) : NdGood Tryz.prog Tryz.f6 8 Tryz.H0 W Zw.p2 Zw.d30 [(.slice a1 m1 c1), (.int .i64 x1)] :=
  (Zw.s30 r0 h1 b1 ((102 - x1).toNat + 1)) g1x p11 (by omega)
theorem Zw.s20 {W : World} {n0 : Int} {a1 : Option Addr} {m1 c1 : Nat} {f1q0 : Nat → Bool} (r0 : R64 n0) (h1 : SlcOk W a1 m1 c1 1 (fun i => [.bool (f1q0 i)])) (b1 : (m1 : Int) < 9223372036854775808) : ∀ k : Nat, (∀ {x1 : Int} (g1x : R64 x1) (p11 : (0 ≤ x1 ∧ x1 ≤ 101)), (101 - x1) < k → NdGood Tryz.prog Tryz.f6 8 Tryz.H0 W Zw.p2 Zw.d20 [(.slice a1 m1 c1), (.int .i64 x1)]) := by
  intro k
  induction k with
  | zero =>
    intro x1 g1x p11 hk
    have ⟨gl1, gh1⟩ := g1x
    have ⟨rl0, rh0⟩ := r0
    have ⟨p11l, p11h⟩ := p11
    exfalso; omega
  | succ k ih =>
    have ih20 := @ih
    intro x1 g1x p11 hk
    have ⟨gl1, gh1⟩ := g1x
    have ⟨rl0, rh0⟩ := r0
    have ⟨p11l, p11h⟩ := p11
    by_cases q1 : x1 < (100 : Int)
    ·
      by_cases q2 : x1 < (m1 : Int)
      ·
        have l3 : (x1).toNat < m1 := by omega
        obtain ⟨p3, v3⟩ := h1.elem l3
        cases z4 : f1q0 (x1).toNat with
        | true =>
          obtain ⟨d5, e5, g5, o5⟩ := ex_add x1 (1 : Int)
          exact Zw.nx Zw.t82 [(.int .i64 (m1 : Int)), (.int .i64 d5)] [p3] (Zw.k2 _) ⟨Zw.hl rfl (by first | omega | assumption), Zw.hl rfl q1, hold_len (.atom _ _ rfl) (.atom _ _ rfl), hold_bool (.atom _ _ rfl) (.atom _ _ rfl) (op_lss_t q2), hold_idx v3 l3 (.atom _ _ rfl) (.atom _ _ rfl) (by omega) rfl, hold_op (.atom _ _ rfl) (.int _ _) o5 (.atom _ _ rfl), trivial⟩ Zw.i82 (rowsHold_cons (Elem.row v3 (VL.cons (vb z4) VL.nil)) rowsHold_nil) Zw.r82 (ih20 g5 (by constructor <;> omega) (by omega)) rfl rfl rfl rfl
        | false =>
          obtain ⟨d6, e6, g6, o6⟩ := ex_add x1 (1 : Int)
          exact Zw.nx Zw.t83 [(.int .i64 (m1 : Int)), (.int .i64 d6)] [p3] (Zw.k2 _) ⟨Zw.hl rfl (by first | omega | assumption), Zw.hl rfl q1, hold_len (.atom _ _ rfl) (.atom _ _ rfl), hold_bool (.atom _ _ rfl) (.atom _ _ rfl) (op_lss_t q2), hold_idx v3 l3 (.atom _ _ rfl) (.atom _ _ rfl) (by omega) rfl, hold_op (.atom _ _ rfl) (.int _ _) o6 (.atom _ _ rfl), trivial⟩ Zw.i83 (rowsHold_cons (Elem.row v3 (VL.cons (vb z4) VL.nil)) rowsHold_nil) Zw.r83 (Zw.n30 r0 h1 b1 g6 (by constructor <;> omega)) rfl rfl rfl rfl
      ·
        obtain ⟨d7, e7, g7, o7⟩ := ex_add x1 (1 : Int)
        exact Zw.nx Zw.t84 [(.int .i64 (m1 : Int)), (.int .i64 d7)] [] (Zw.k2 _) ⟨Zw.hl rfl (by first | omega | assumption), Zw.hl rfl q1, hold_len (.atom _ _ rfl) (.atom _ _ rfl), hold_bool (.atom _ _ rfl) (.atom _ _ rfl) (op_lss_f (Int.not_lt.1 q2)), hold_op (.atom _ _ rfl) (.int _ _) o7 (.atom _ _ rfl), trivial⟩ Zw.i84 rowsHold_nil Zw.r84 (Zw.n30 r0 h1 b1 g7 (by constructor <;> omega)) rfl rfl rfl rfl
    ·
      obtain ⟨d8, e8, g8, o8⟩ := ex_add x1 (1 : Int)
      exact Zw.nx Zw.t85 [(.int .i64 d8)] [] (Zw.k2 _) ⟨Zw.hl rfl (by first | omega | assumption), hold_bool (.atom _ _ rfl) (.int _ _) (op_lss_f (Int.not_lt.1 q1)), hold_op (.atom _ _ rfl) (.int _ _) o8 (.atom _ _ rfl), trivial⟩ Zw.i85 rowsHold_nil Zw.r85 (Zw.n30 r0 h1 b1 g8 (by constructor <;> omega)) rfl rfl rfl rfl
theorem Zw.n20 {W : World} {n0 : Int} {a1 : Option Addr} {m1 c1 : Nat} {f1q0 : Nat → Bool} (r0 : R64 n0) (h1 : SlcOk W a1 m1 c1 1 (fun i => [.bool (f1q0 i)])) (b1 : (m1 : Int) < 9223372036854775808) {x1 : Int} (g1x : R64 x1) (p11 : (0 ≤ x1 ∧ x1 ≤ 101)) : NdGood Tryz.prog Tryz.f6 8 Tryz.H0 W Zw.p2 Zw.d20 [(.slice a1 m1 c1), (.int .i64 x1)] :=
  (Zw.s20 r0 h1 b1 ((101 - x1).toNat + 1)) g1x p11 (by omega)
theorem Zw.s9 {W : World} {n0 : Int} {a1 : Option Addr} {m1 c1 : Nat} {f1q0 : Nat → Bool} (r0 : R64 n0) (h1 : SlcOk W a1 m1 c1 1 (fun i => [.bool (f1q0 i)])) (b1 : (m1 : Int) < 9223372036854775808) : ∀ k : Nat, (∀ {x1 : Int} (g1x : R64 x1) (p11 : (0 ≤ x1 ∧ x1 ≤ 100)), (100 - x1) < k → NdGood Tryz.prog Tryz.f6 8 Tryz.H0 W Zw.p2 Zw.d9 [(.slice a1 m1 c1), (.int .i64 x1)]) := by
  intro k
  induction k with
  | zero =>
    intro x1 g1x p11 hk
    have ⟨gl1, gh1⟩ := g1x
    have ⟨rl0, rh0⟩ := r0
    have ⟨p11l, p11h⟩ := p11
    exfalso; omega
  | succ k ih =>
    have ih9 := @ih
    intro x1 g1x p11 hk
    have ⟨gl1, gh1⟩ := g1x
    have ⟨rl0, rh0⟩ := r0
    have ⟨p11l, p11h⟩ := p11
    by_cases q1 : x1 < (100 : Int)
    ·
      by_cases q2 : x1 < (m1 : Int)
      ·
        have l3 : (x1).toNat < m1 := by omega
        obtain ⟨p3, v3⟩ := h1.elem l3
        cases z4 : f1q0 (x1).toNat with
        | true =>
          obtain ⟨d5, e5, g5, o5⟩ := ex_add x1 (1 : Int)
          exact Zw.nx Zw.t41 [(.int .i64 (m1 : Int)), (.int .i64 d5)] [p3] (Zw.k2 _) ⟨Zw.hl rfl (by first | omega | assumption), Zw.hl rfl q1, hold_len (.atom _ _ rfl) (.atom _ _ rfl), hold_bool (.atom _ _ rfl) (.atom _ _ rfl) (op_lss_t q2), hold_idx v3 l3 (.atom _ _ rfl) (.atom _ _ rfl) (by omega) rfl, hold_op (.atom _ _ rfl) (.int _ _) o5 (.atom _ _ rfl), trivial⟩ Zw.i41 (rowsHold_cons (Elem.row v3 (VL.cons (vb z4) VL.nil)) rowsHold_nil) Zw.r41 (ih9 g5 (by constructor <;> omega) (by omega)) rfl rfl rfl rfl
        | false =>
          obtain ⟨d6, e6, g6, o6⟩ := ex_add x1 (1 : Int)
          exact Zw.nx Zw.t42 [(.int .i64 (m1 : Int)), (.int .i64 d6)] [p3] (Zw.k2 _) ⟨Zw.hl rfl (by first | omega | assumption), Zw.hl rfl q1, hold_len (.atom _ _ rfl) (.atom _ _ rfl), hold_bool (.atom _ _ rfl) (.atom _ _ rfl) (op_lss_t q2), hold_idx v3 l3 (.atom _ _ rfl) (.atom _ _ rfl) (by omega) rfl, hold_op (.atom _ _ rfl) (.int _ _) o6 (.atom _ _ rfl), trivial⟩ Zw.i42 (rowsHold_cons (Elem.row v3 (VL.cons (vb z4) VL.nil)) rowsHold_nil) Zw.r42 (Zw.n20 r0 h1 b1 g6 (by constructor <;> omega)) rfl rfl rfl rfl
      ·
        obtain ⟨d7, e7, g7, o7⟩ := ex_add x1 (1 : Int)
        exact Zw.nx Zw.t43 [(.int .i64 (m1 : Int)), (.int .i64 d7)] [] (Zw.k2 _) ⟨Zw.hl rfl (by first | omega | assumption), Zw.hl rfl q1, hold_len (.atom _ _ rfl) (.atom _ _ rfl), hold_bool (.atom _ _ rfl) (.atom _ _ rfl) (op_lss_f (Int.not_lt.1 q2)), hold_op (.atom _ _ rfl) (.int _ _) o7 (.atom _ _ rfl), trivial⟩ Zw.i43 rowsHold_nil Zw.r43 (Zw.n20 r0 h1 b1 g7 (by constructor <;> omega)) rfl rfl rfl rfl
    ·
      obtain ⟨d8, e8, g8, o8⟩ := ex_add x1 (1 : Int)
      exact Zw.nx Zw.t44 [(.int .i64 d8)] [] (Zw.k2 _) ⟨Zw.hl rfl (by first | omega | assumption), hold_bool (.atom _ _ rfl) (.int _ _) (op_lss_f (Int.not_lt.1 q1)), hold_op (.atom _ _ rfl) (.int _ _) o8 (.atom _ _ rfl), trivial⟩ Zw.i44 rowsHold_nil Zw.r44 (Zw.n20 r0 h1 b1 g8 (by constructor <;> omega)) rfl rfl rfl rfl
theorem Zw.n9 {W : World} {n0 : Int} {a1 : Option Addr} {m1 c1 : Nat} {f1q0 : Nat → Bool} (r0 : R64 n0) (h1 : SlcOk W a1 m1 c1 1 (fun i => [.bool (f1q0 i)])) (b1 : (m1 : Int) < 9223372036854775808) {x1 : Int} (g1x : R64 x1) (p11 : (0 ≤ x1 ∧ x1 ≤ 100)) : NdGood Tryz.prog Tryz.f6 8 Tryz.H0 W Zw.p2 Zw.d9 [(.slice a1 m1 c1), (.int .i64 x1)] :=
  (Zw.s9 r0 h1 b1 ((100 - x1).toNat + 1)) g1x p11 (by omega)
theorem Zw.n73 {W : World} {n0 : Int} {a1 : Option Addr} {m1 c1 : Nat} {f1q0 : Nat → Bool} (r0 : R64 n0) (h1 : SlcOk W a1 m1 c1 1 (fun i => [.bool (f1q0 i)])) (b1 : (m1 : Int) < 9223372036854775808) {x1 : Int} (g1x : R64 x1) (p11 : (0 ≤ x1 ∧ x1 ≤ 109)) : NdGood Tryz.prog Tryz.f6 8 Tryz.H0 W Zw.p2 Zw.d73 [(.slice a1 m1 c1), (.int .i64 x1)] := by
  have ⟨gl1, gh1⟩ := g1x
  have ⟨rl0, rh0⟩ := r0
  have ⟨p11l, p11h⟩ := p11
  exact Zw.fx Zw.t273 [] [] (Zw.k2 _) ⟨Zw.hl rfl (by first | omega | assumption), trivial⟩ Zw.i273 rfl rfl rowsHold_nil Zw.r273
theorem Zw.s70 {W : World} {n0 : Int} {a1 : Option Addr} {m1 c1 : Nat} {f1q0 : Nat → Bool} (r0 : R64 n0) (h1 : SlcOk W a1 m1 c1 1 (fun i => [.bool (f1q0 i)])) (b1 : (m1 : Int) < 9223372036854775808) : ∀ k : Nat, (∀ {x1 : Int} (g1x : R64 x1) (p11 : (0 ≤ x1 ∧ x1 ≤ 108)), (108 - x1) < k → NdGood Tryz.prog Tryz.f6 8 Tryz.H0 W Zw.p2 Zw.d70 [(.slice a1 m1 c1), (.int .i64 x1)]) := by
  intro k
  induction k with
  | zero =>
    intro x1 g1x p11 hk
    have ⟨gl1, gh1⟩ := g1x
    have ⟨rl0, rh0⟩ := r0
    have ⟨p11l, p11h⟩ := p11
    exfalso; omega
  | succ k ih =>
    have ih70 := @ih
    intro x1 g1x p11 hk
    have ⟨gl1, gh1⟩ := g1x
    have ⟨rl0, rh0⟩ := r0
    have ⟨p11l, p11h⟩ := p11
    by_cases q1 : x1 < (100 : Int)
    ·
      by_cases q2 : x1 < (m1 : Int)
      ·
        have l3 : (x1).toNat < m1 := by omega
        obtain ⟨p3, v3⟩ := h1.elem l3
        cases z4 : f1q0 (x1).toNat with
        | true =>
          obtain ⟨d5, e5, g5, o5⟩ := ex_add x1 (1 : Int)
          exact Zw.nx Zw.t261 [(.int .i64 (m1 : Int)), (.int .i64 d5)] [p3] (Zw.k2 _) ⟨Zw.hl rfl (by first | omega | assumption), Zw.hl rfl q1, hold_len (.atom _ _ rfl) (.atom _ _ rfl), hold_bool (.atom _ _ rfl) (.atom _ _ rfl) (op_lss_t q2), hold_idx v3 l3 (.atom _ _ rfl) (.atom _ _ rfl) (by omega) rfl, hold_op (.atom _ _ rfl) (.int _ _) o5 (.atom _ _ rfl), trivial⟩ Zw.i261 (rowsHold_cons (Elem.row v3 (VL.cons (vb z4) VL.nil)) rowsHold_nil) Zw.r261 (ih70 g5 (by constructor <;> omega) (by omega)) rfl rfl rfl rfl
        | false =>
          obtain ⟨d6, e6, g6, o6⟩ := ex_add x1 (1 : Int)
          exact Zw.nx Zw.t262 [(.int .i64 (m1 : Int)), (.int .i64 d6)] [p3] (Zw.k2 _) ⟨Zw.hl rfl (by first | omega | assumption), Zw.hl rfl q1, hold_len (.atom _ _ rfl) (.atom _ _ rfl), hold_bool (.atom _ _ rfl) (.atom _ _ rfl) (op_lss_t q2), hold_idx v3 l3 (.atom _ _ rfl) (.atom _ _ rfl) (by omega) rfl, hold_op (.atom _ _ rfl) (.int _ _) o6 (.atom _ _ rfl), trivial⟩ Zw.i262 (rowsHold_cons (Elem.row v3 (VL.cons (vb z4) VL.nil)) rowsHold_nil) Zw.r262 (Zw.n73 r0 h1 b1 g6 (by constructor <;> omega)) rfl rfl rfl rfl
      ·
        obtain ⟨d7, e7, g7, o7⟩ := ex_add x1 (1 : Int)
        exact Zw.nx Zw.t263 [(.int .i64 (m1 : Int)), (.int .i64 d7)] [] (Zw.k2 _) ⟨Zw.hl rfl (by first | omega | assumption), Zw.hl rfl q1, hold_len (.atom _ _ rfl) (.atom _ _ rfl), hold_bool (.atom _ _ rfl) (.atom _ _ rfl) (op_lss_f (Int.not_lt.1 q2)), hold_op (.atom _ _ rfl) (.int _ _) o7 (.atom _ _ rfl), trivial⟩ Zw.i263 rowsHold_nil Zw.r263 (Zw.n73 r0 h1 b1 g7 (by constructor <;> omega)) rfl rfl rfl rfl
    ·
      obtain ⟨d8, e8, g8, o8⟩ := ex_add x1 (1 : Int)
      exact Zw.nx Zw.t264 [(.int .i64 d8)] [] (Zw.k2 _) ⟨Zw.hl rfl (by first | omega | assumption), hold_bool (.atom _ _ rfl) (.int _ _) (op_lss_f (Int.not_lt.1 q1)), hold_op (.atom _ _ rfl) (.int _ _) o8 (.atom _ _ rfl), trivial⟩ Zw.i264 rowsHold_nil Zw.r264 (Zw.n73 r0 h1 b1 g8 (by constructor <;> omega)) rfl rfl rfl rfl
theorem Zw.n70 {W : World} {n0 : Int} {a1 : Option Addr} {m1 c1 : Nat} {f1q0 : Nat → Bool} (r0 : R64 n0) (h1 : SlcOk W a1 m1 c1 1 (fun i => [.bool (f1q0 i)])) (b1 : (m1 : Int) < 9223372036854775808) {x1 : Int} (g1x : R64 x1) (p11 : (0 ≤ x1 ∧ x1 ≤ 108)) : NdGood Tryz.prog Tryz.f6 8 Tryz.H0 W Zw.p2 Zw.d70 [(.slice a1 m1 c1), (.int .i64 x1)] :=
  (Zw.s70 r0 h1 b1 ((108 - x1).toNat + 1)) g1x p11 (by omega)
theorem Zw.s66 {W : World} {n0 : Int} {a1 : Option Addr} {m1 c1 : Nat} {f1q0 : Nat → Bool} (r0 : R64 n0) (h1 : SlcOk W a1 m1 c1 1 (fun i => [.bool (f1q0 i)])) (b1 : (m1 : Int) < 9223372036854775808) : ∀ k : Nat, (∀ {x1 : Int} (g1x : R64 x1) (p11 : (0 ≤ x1 ∧ x1 ≤ 107)), (107 - x1) < k → NdGood Tryz.prog Tryz.f6 8 Tryz.H0 W Zw.p2 Zw.d66 [(.slice a1 m1 c1), (.int .i64 x1)]) := by
  intro k
  induction k with
  | zero =>
    intro x1 g1x p11 hk
    have ⟨gl1, gh1⟩ := g1x
    have ⟨rl0, rh0⟩ := r0
    have ⟨p11l, p11h⟩ := p11
    exfalso; omega
  | succ k ih =>
    have ih66 := @ih
    intro x1 g1x p11 hk
    have ⟨gl1, gh1⟩ := g1x
    have ⟨rl0, rh0⟩ := r0
    have ⟨p11l, p11h⟩ := p11
    by_cases q1 : x1 < (100 : Int)
    ·
      by_cases q2 : x1 < (m1 : Int)
      ·
        have l3 : (x1).toNat < m1 := by omega
        obtain ⟨p3, v3⟩ := h1.elem l3
        cases z4 : f1q0 (x1).toNat with
        | true =>
          obtain ⟨d5, e5, g5, o5⟩ := ex_add x1 (1 : Int)
          exact Zw.nx Zw.t248 [(.int .i64 (m1 : Int)), (.int .i64 d5)] [p3] (Zw.k2 _) ⟨Zw.hl rfl (by first | omega | assumption), Zw.hl rfl q1, hold_len (.atom _ _ rfl) (.atom _ _ rfl), hold_bool (.atom _ _ rfl) (.atom _ _ rfl) (op_lss_t q2), hold_idx v3 l3 (.atom _ _ rfl) (.atom _ _ rfl) (by omega) rfl, hold_op (.atom _ _ rfl) (.int _ _) o5 (.atom _ _ rfl), trivial⟩ Zw.i248 (rowsHold_cons (Elem.row v3 (VL.cons (vb z4) VL.nil)) rowsHold_nil) Zw.r248 (ih66 g5 (by constructor <;> omega) (by omega)) rfl rfl rfl rfl
        | false =>
          obtain ⟨d6, e6, g6, o6⟩ := ex_add x1 (1 : Int)
          exact Zw.nx Zw.t249 [(.int .i64 (m1 : Int)), (.int .i64 d6)] [p3] (Zw.k2 _) ⟨Zw.hl rfl (by first | omega | assumption), Zw.hl rfl q1, hold_len (.atom _ _ rfl) (.atom _ _ rfl), hold_bool (.atom _ _ rfl) (.atom _ _ rfl) (op_lss_t q2), hold_idx v3 l3 (.atom _ _ rfl) (.atom _ _ rfl) (by omega) rfl, hold_op (.atom _ _ rfl) (.int _ _) o6 (.atom _ _ rfl), trivial⟩ Zw.i249 (rowsHold_cons (Elem.row v3 (VL.cons (vb z4) VL.nil)) rowsHold_nil) Zw.r249 (Zw.n70 r0 h1 b1 g6 (by constructor <;> omega)) rfl rfl rfl rfl
      ·
        obtain ⟨d7, e7, g7, o7⟩ := ex_add x1 (1 : Int)
        exact Zw.nx Zw.t250 [(.int .i64 (m1 : Int)), (.int .i64 d7)] [] (Zw.k2 _) ⟨Zw.hl rfl (by first | omega | assumption), Zw.hl rfl q1, hold_len (.atom _ _ rfl) (.atom _ _ rfl), hold_bool (.atom _ _ rfl) (.atom _ _ rfl) (op_lss_f (Int.not_lt.1 q2)), hold_op (.atom _ _ rfl) (.int _ _) o7 (.atom _ _ rfl), trivial⟩ Zw.i250 rowsHold_nil Zw.r250 (Zw.n70 r0 h1 b1 g7 (by constructor <;> omega)) rfl rfl rfl rfl
    ·
      obtain ⟨d8, e8, g8, o8⟩ := ex_add x1 (1 : Int)
      exact Zw.nx Zw.t251 [(.int .i64 d8)] [] (Zw.k2 _) ⟨Zw.hl rfl (by first | omega | assumption), hold_bool (.atom _ _ rfl) (.int _ _) (op_lss_f (Int.not_lt.1 q1)), hold_op (.atom _ _ rfl) (.int _ _) o8 (.atom _ _ rfl), trivial⟩ Zw.i251 rowsHold_nil Zw.r251 (Zw.n70 r0 h1 b1 g8 (by constructor <;> omega)) rfl rfl rfl rfl
theorem Zw.n66 {W : World} {n0 : Int} {a1 : Option Addr} {m1 c1 : Nat} {f1q0 : Nat → Bool} (r0 : R64 n0) (h1 : SlcOk W a1 m1 c1 1 (fun i => [.bool (f1q0 i)])) (b1 : (m1 : Int) < 9223372036854775808) {x1 : Int} (g1x : R64 x1) (p11 : (0 ≤ x1 ∧ x1 ≤ 107)) : NdGood Tryz.prog Tryz.f6 8 Tryz.H0 W Zw.p2 Zw.d66 [(.slice a1 m1 c1), (.int .i64 x1)] :=
  (Zw.s66 r0 h1 b1 ((107 - x1).toNat + 1)) g1x p11 (by omega)
theorem Zw.s61 {W : World} {n0 : Int} {a1 : Option Addr} {m1 c1 : Nat} {f1q0 : Nat → Bool} (r0 : R64 n0) (h1 : SlcOk W a1 m1 c1 1 (fun i => [.bool (f1q0 i)])) (b1 : (m1 : Int) < 9223372036854775808) : ∀ k : Nat, (∀ {x1 : Int} (g1x : R64 x1) (p11 : (0 ≤ x1 ∧ x1 ≤ 106)), (106 - x1) < k → NdGood Tryz.prog Tryz.f6 8 Tryz.H0 W Zw.p2 Zw.d61 [(.slice a1 m1 c1), (.int .i64 x1)]) := by
  intro k
  induction k with
  | zero =>
    intro x1 g1x p11 hk
    have ⟨gl1, gh1⟩ := g1x
    have ⟨rl0, rh0⟩ := r0
    have ⟨p11l, p11h⟩ := p11
    exfalso; omega
  | succ k ih =>
    have ih61 := @ih
    intro x1 g1x p11 hk
    have ⟨gl1, gh1⟩ := g1x
    have ⟨rl0, rh0⟩ := r0
    have ⟨p11l, p11h⟩ := p11
    by_cases q1 : x1 < (100 : Int)
    ·
      by_cases q2 : x1 < (m1 : Int)
      ·
        have l3 : (x1).toNat < m1 := by omega
        obtain ⟨p3, v3⟩ := h1.elem l3
        cases z4 : f1q0 (x1).toNat with
        | true =>
          obtain ⟨d5, e5, g5, o5⟩ := ex_add x1 (1 : Int)
          exact Zw.nx Zw.t231 [(.int .i64 (m1 : Int)), (.int .i64 d5)] [p3] (Zw.k2 _) ⟨Zw.hl rfl (by first | omega | assumption), Zw.hl rfl q1, hold_len (.atom _ _ rfl) (.atom _ _ rfl), hold_bool (.atom _ _ rfl) (.atom _ _ rfl) (op_lss_t q2), hold_idx v3 l3 (.atom _ _ rfl) (.atom _ _ rfl) (by omega) rfl, hold_op (.atom _ _ rfl) (.int _ _) o5 (.atom _ _ rfl), trivial⟩ Zw.i231 (rowsHold_cons (Elem.row v3 (VL.cons (vb z4) VL.nil)) rowsHold_nil) Zw.r231 (ih61 g5 (by constructor <;> omega) (by omega)) rfl rfl rfl rfl
        | false =>
          obtain ⟨d6, e6, g6, o6⟩ := ex_add x1 (1 : Int)
          exact Zw.nx Zw.t232 [(.int .i64 (m1 : Int)), (.int .i64 d6)] [p3] (Zw.k2 _) ⟨Zw.hl rfl (by first | omega | assumption), Zw.hl rfl q1, hold_len (.atom _ _ rfl) (.atom _ _ rfl), hold_bool (.atom _ _ rfl) (.atom _ _ rfl) (op_lss_t q2), hold_idx v3 l3 (.atom _ _ rfl) (.atom _ _ rfl) (by omega) rfl, hold_op (.atom _ _ rfl) (.int _ _) o6 (.atom _ _ rfl), trivial⟩ Zw.i232 (rowsHold_cons (Elem.row v3 (VL.cons (vb z4) VL.nil)) rowsHold_nil) Zw.r232 (Zw.n66 r0 h1 b1 g6 (by constructor <;> omega)) rfl rfl rfl rfl
      ·
        obtain ⟨d7, e7, g7, o7⟩ := ex_add x1 (1 : Int)
        exact Zw.nx Zw.t233 [(.int .i64 (m1 : Int)), (.int .i64 d7)] [] (Zw.k2 _) ⟨Zw.hl rfl (by first | omega | assumption), Zw.hl rfl q1, hold_len (.atom _ _ rfl) (.atom _ _ rfl), hold_bool (.atom _ _ rfl) (.atom _ _ rfl) (op_lss_f (Int.not_lt.1 q2)), hold_op (.atom _ _ rfl) (.int _ _) o7 (.atom _ _ rfl), trivial⟩ Zw.i233 rowsHold_nil Zw.r233 (Zw.n66 r0 h1 b1 g7 (by constructor <;> omega)) rfl rfl rfl rfl
    ·
      obtain ⟨d8, e8, g8, o8⟩ := ex_add x1 (1 : Int)
      exact Zw.nx Zw.t234 [(.int .i64 d8)] [] (Zw.k2 _) ⟨Zw.hl rfl (by first | omega | assumption), hold_bool (.atom _ _ rfl) (.int _ _) (op_lss_f (Int.not_lt.1 q1)), hold_op (.atom _ _ rfl) (.int _ _) o8 (.atom _ _ rfl), trivial⟩ Zw.i234 rowsHold_nil Zw.r234 (Zw.n66 r0 h1 b1 g8 (by constructor <;> omega)) rfl rfl rfl rfl
theorem Zw.n61 {W : World} {n0 : Int} {a1 : Option Addr} {m1 c1 : Nat} {f1q0 : Nat → Bool} (r0 : R64 n0) (h1 : SlcOk W a1 m1 c1 1 (fun i => [.bool (f1q0 i)])) (b1 : (m1 : Int) < 9223372036854775808) {x1 : Int} (g1x : R64 x1) (p11 : (0 ≤ x1 ∧ x1 ≤ 106)) : NdGood Tryz.prog Tryz.f6 8 Tryz.H0 W Zw.p2 Zw.d61 [(.slice a1 m1 c1), (.int .i64 x1)] :=
  (Zw.s61 r0 h1 b1 ((106 - x1).toNat + 1)) g1x p11 (by omega)
theorem Zw.s55 {W : World} {n0 : Int} {a1 : Option Addr} {m1 c1 : Nat} {f1q0 : Nat → Bool} (r0 : R64 n0) (h1 : SlcOk W a1 m1 c1 1 (fun i => [.bool (f1q0 i)])) (b1 : (m1 : Int) < 9223372036854775808) : ∀ k : Nat, (∀ {x1 : Int} (g1x : R64 x1) (p11 : (0 ≤ x1 ∧ x1 ≤ 105)), (105 - x1) < k → NdGood Tryz.prog Tryz.f6 8 Tryz.H0 W Zw.p2 Zw.d55 [(.slice a1 m1 c1), (.int .i64 x1)]) := by
  intro k
  induction k with
  | zero =>
    intro x1 g1x p11 hk
    have ⟨gl1, gh1⟩ := g1x
    have ⟨rl0, rh0⟩ := r0
    have ⟨p11l, p11h⟩ := p11
    exfalso; omega
  | succ k ih =>
    have ih55 := @ih
    intro x1 g1x p11 hk
    have ⟨gl1, gh1⟩ := g1x
    have ⟨rl0, rh0⟩ := r0
    have ⟨p11l, p11h⟩ := p11
    by_cases q1 : x1 < (100 : Int)
    ·
      by_cases q2 : x1 < (m1 : Int)
      ·
        have l3 : (x1).toNat < m1 := by omega
        obtain ⟨p3, v3⟩ := h1.elem l3
        cases z4 : f1q0 (x1).toNat with
        | true =>
          obtain ⟨d5, e5, g5, o5⟩ := ex_add x1 (1 : Int)
          exact Zw.nx Zw.t210 [(.int .i64 (m1 : Int)), (.int .i64 d5)] [p3] (Zw.k2 _) ⟨Zw.hl rfl (by first | omega | assumption), Zw.hl rfl q1, hold_len (.atom _ _ rfl) (.atom _ _ rfl), hold_bool (.atom _ _ rfl) (.atom _ _ rfl) (op_lss_t q2), hold_idx v3 l3 (.atom _ _ rfl) (.atom _ _ rfl) (by omega) rfl, hold_op (.atom _ _ rfl) (.int _ _) o5 (.atom _ _ rfl), trivial⟩ Zw.i210 (rowsHold_cons (Elem.row v3 (VL.cons (vb z4) VL.nil)) rowsHold_nil) Zw.r210 (ih55 g5 (by constructor <;> omega) (by omega)) rfl rfl rfl rfl
        | false =>
          obtain ⟨d6, e6, g6, o6⟩ := ex_add x1 (1 : Int)
          exact Zw.nx Zw.t211 [(.int .i64 (m1 : Int)), (.int .i64 d6)] [p3] (Zw.k2 _) ⟨Zw.hl rfl (by first | omega | assumption), Zw.hl rfl q1, hold_len (.atom _ _ rfl) (.atom _ _ rfl), hold_bool (.atom _ _ rfl) (.atom _ _ rfl) (op_lss_t q2), hold_idx v3 l3 (.atom _ _ rfl) (.atom _ _ rfl) (by omega) rfl, hold_op (.atom _ _ rfl) (.int _ _) o6 (.atom _ _ rfl), trivial⟩ Zw.i211 (rowsHold_cons (Elem.row v3 (VL.cons (vb z4) VL.nil)) rowsHold_nil) Zw.r211 (Zw.n61 r0 h1 b1 g6 (by constructor <;> omega)) rfl rfl rfl rfl
      ·
        obtain ⟨d7, e7, g7, o7⟩ := ex_add x1 (1 : Int)
        exact Zw.nx Zw.t212 [(.int .i64 (m1 : Int)), (.int .i64 d7)] [] (Zw.k2 _) ⟨Zw.hl rfl (by first | omega | assumption), Zw.hl rfl q1, hold_len (.atom _ _ rfl) (.atom _ _ rfl), hold_bool (.atom _ _ rfl) (.atom _ _ rfl) (op_lss_f (Int.not_lt.1 q2)), hold_op (.atom _ _ rfl) (.int _ _) o7 (.atom _ _ rfl), trivial⟩ Zw.i212 rowsHold_nil Zw.r212 (Zw.n61 r0 h1 b1 g7 (by constructor <;> omega)) rfl rfl rfl rfl
    ·
      obtain ⟨d8, e8, g8, o8⟩ := ex_add x1 (1 : Int)
      exact Zw.nx Zw.t213 [(.int .i64 d8)] [] (Zw.k2 _) ⟨Zw.hl rfl (by first | omega | assumption), hold_bool (.atom _ _ rfl) (.int _ _) (op_lss_f (Int.not_lt.1 q1)), hold_op (.atom _ _ rfl) (.int _ _) o8 (.atom _ _ rfl), trivial⟩ Zw.i213 rowsHold_nil Zw.r213 (Zw.n61 r0 h1 b1 g8 (by constructor <;> omega)) rfl rfl rfl rfl
theorem Zw.n55 {W : World} {n0 : Int} {a1 : Option Addr} {m1 c1 : Nat} {f1q0 : Nat → Bool} (r0 : R64 n0) (h1 : SlcOk W a1 m1 c1 1 (fun i => [.bool (f1q0 i)])) (b1 : (m1 : Int) < 9223372036854775808) {x1 : Int} (g1x : R64 x1) (p11 : (0 ≤ x1 ∧ x1 ≤ 105)) : NdGood Tryz.prog Tryz.f6 8 Tryz.H0 W Zw.p2 Zw.d55 [(.slice a1 m1 c1), (.int .i64 x1)] :=
  (Zw.s55 r0 h1 b1 ((105 - x1).toNat + 1)) g1x p11 (by omega)
theorem Zw.s48 {W : World} {n0 : Int} {a1 : Option Addr} {m1 c1 : Nat} {f1q0 : Nat → Bool} (r0 : R64 n0) (h1 : SlcOk W a1 m1 c1 1 (fun i => [.bool (f1q0 i)])) (b1 : (m1 : Int) < 9223372036854775808) : ∀ k : Nat, (∀ {x1 : Int} (g1x : R64 x1) (p11 : (0 ≤ x1 ∧ x1 ≤ 104)), (104 - x1) < k → NdGood Tryz.prog Tryz.f6 8 Tryz.H0 W Zw.p2 Zw.d48 [(.slice a1 m1 c1), (.int .i64 x1)]) := by
  intro k
  induction k with
  | zero =>
    intro x1 g1x p11 hk
    have ⟨gl1, gh1⟩ := g1x
    have ⟨rl0, rh0⟩ := r0
    have ⟨p11l, p11h⟩ := p11
    exfalso; omega
  | succ k ih =>
    have ih48 := @ih
    intro x1 g1x p11 hk
    have ⟨gl1, gh1⟩ := g1x
    have ⟨rl0, rh0⟩ := r0
    have ⟨p11l, p11h⟩ := p11
    by_cases q1 : x1 < (100 : Int)
    ·
      by_cases q2 : x1 < (m1 : Int)
      ·
        have l3 : (x1).toNat < m1 := by omega
        obtain ⟨p3, v3⟩ := h1.elem l3
        cases z4 : f1q0 (x1).toNat with
        | true =>
          obtain ⟨d5, e5, g5, o5⟩ := ex_add x1 (1 : Int)
          exact Zw.nx Zw.t185 [(.int .i64 (m1 : Int)), (.int .i64 d5)] [p3] (Zw.k2 _) ⟨Zw.hl rfl (by first | omega | assumption), Zw.hl rfl q1, hold_len (.atom _ _ rfl) (.atom _ _ rfl), hold_bool (.atom _ _ rfl) (.atom _ _ rfl) (op_lss_t q2), hold_idx v3 l3 (.atom _ _ rfl) (.atom _ _ rfl) (by omega) rfl, hold_op (.atom _ _ rfl) (.int _ _) o5 (.atom _ _ rfl), trivial⟩ Zw.i185 (rowsHold_cons (Elem.row v3 (VL.cons (vb z4) VL.nil)) rowsHold_nil) Zw.r185 (ih48 g5 (by constructor <;> omega) (by omega)) rfl rfl rfl rfl
        | false =>
          obtain ⟨d6, e6, g6, o6⟩ := ex_add x1 (1 : Int)
          exact Zw.nx Zw.t186 [(.int .i64 (m1 : Int)), (.int .i64 d6)] [p3] (Zw.k2 _) ⟨Zw.hl rfl (by first | omega | assumption), Zw.hl rfl q1, hold_len (.atom _ _ rfl) (.atom _ _ rfl), hold_bool (.atom _ _ rfl) (.atom _ _ rfl) (op_lss_t q2), hold_idx v3 l3 (.atom _ _ rfl) (.atom _ _ rfl) (by omega) rfl, hold_op (.atom _ _ rfl) (.int _ _) o6 (.atom _ _ rfl), trivial⟩ Zw.i186 (rowsHold_cons (Elem.row v3 (VL.cons (vb z4) VL.nil)) rowsHold_nil) Zw.r186 (Zw.n55 r0 h1 b1 g6 (by constructor <;> omega)) rfl rfl rfl rfl
      ·
        obtain ⟨d7, e7, g7, o7⟩ := ex_add x1 (1 : Int)
        exact Zw.nx Zw.t187 [(.int .i64 (m1 : Int)), (.int .i64 d7)] [] (Zw.k2 _) ⟨Zw.hl rfl (by first | omega | assumption), Zw.hl rfl q1, hold_len (.atom _ _ rfl) (.atom _ _ rfl), hold_bool (.atom _ _ rfl) (.atom _ _ rfl) (op_lss_f (Int.not_lt.1 q2)), hold_op (.atom _ _ rfl) (.int _ _) o7 (.atom _ _ rfl), trivial⟩ Zw.i187 rowsHold_nil Zw.r187 (Zw.n55 r0 h1 b1 g7 (by constructor <;> omega)) rfl rfl rfl rfl
    ·
      obtain ⟨d8, e8, g8, o8⟩ := ex_add x1 (1 : Int)
      exact Zw.nx Zw.t188 [(.int .i64 d8)] [] (Zw.k2 _) ⟨Zw.hl rfl (by first | omega | assumption), hold_bool (.atom _ _ rfl) (.int _ _) (op_lss_f (Int.not_lt.1 q1)), hold_op (.atom _ _ rfl) (.int _ _) o8 (.atom _ _ rfl), trivial⟩ Zw.i188 rowsHold_nil Zw.r188 (Zw.n55 r0 h1 b1 g8 (by constructor <;> omega)) rfl rfl rfl rfl
theorem Zw.n48 {W : World} {n0 : Int} {a1 : Option Addr} {m1 c1 : Nat} {f1q0 : Nat → Bool} (r0 : R64 n0) (h1 : SlcOk W a1 m1 c1 1 (fun i => [.bool (f1q0 i)])) (b1 : (m1 : Int) < 9223372036854775808) {x1 : Int} (g1x : R64 x1) (p11 : (0 ≤ x1 ∧ x1 ≤ 104)) : NdGood Tryz.prog Tryz.f6 8 Tryz.H0 W Zw.p2 Zw.d48 [(.slice a1 m1 c1), (.int .i64 x1)] :=
  (Zw.s48 r0 h1 b1 ((104 - x1).toNat + 1)) g1x p11 (by omega)
theorem Zw.s40 {W : World} {n0 : Int} {a1 : Option Addr} {m1 c1 : Nat} {f1q0 : Nat → Bool} (r0 : R64 n0) (h1 : SlcOk W a1 m1 c1 1 (fun i => [.bool (f1q0 i)])) (b1 : (m1 : Int) < 9223372036854775808) : ∀ k : Nat, (∀ {x1 : Int} (g1x : R64 x1) (p11 : (0 ≤ x1 ∧ x1 ≤ 103)), (103 - x1) < k → NdGood Tryz.prog Tryz.f6 8 Tryz.H0 W Zw.p2 Zw.d40 [(.slice a1 m1 c1), (.int .i64 x1)]) := by
  intro k
  induction k with
  | zero =>
    intro x1 g1x p11 hk
    have ⟨gl1, gh1⟩ := g1x
    have ⟨rl0, rh0⟩ := r0
    have ⟨p11l, p11h⟩ := p11
    exfalso; omega
  | succ k ih =>
    have ih40 := @ih
    intro x1 g1x p11 hk
    have ⟨gl1, gh1⟩ := g1x
    have ⟨rl0, rh0⟩ := r0
    have ⟨p11l, p11h⟩ := p11
    by_cases q1 : x1 < (100 : Int)
    ·
      by_cases q2 : x1 < (m1 : Int)
      ·
        have l3 : (x1).toNat < m1 := by omega
        obtain ⟨p3, v3⟩ := h1.elem l3
        cases z4 : f1q0 (x1).toNat with
        | true =>
          obtain ⟨d5, e5, g5, o5⟩ := ex_add x1 (1 : Int)
          exact Zw.nx Zw.t156 [(.int .i64 (m1 : Int)), (.int .i64 d5)] [p3] (Zw.k2 _) ⟨Zw.hl rfl (by first | omega | assumption), Zw.hl rfl q1, hold_len (.atom _ _ rfl) (.atom _ _ rfl), hold_bool (.atom _ _ rfl) (.atom _ _ rfl) (op_lss_t q2), hold_idx v3 l3 (.atom _ _ rfl) (.atom _ _ rfl) (by omega) rfl, hold_op (.atom _ _ rfl) (.int _ _) o5 (.atom _ _ rfl), trivial⟩ Zw.i156 (rowsHold_cons (Elem.row v3 (VL.cons (vb z4) VL.nil)) rowsHold_nil) Zw.r156 (ih40 g5 (by constructor <;> omega) (by omega)) rfl rfl rfl rfl
        | false =>
          obtain ⟨d6, e6, g6, o6⟩ := ex_add x1 (1 : Int)
          exact Zw.nx Zw.t157 [(.int .i64 (m1 : Int)), (.int .i64 d6)] [p3] (Zw.k2 _) ⟨Zw.hl rfl (by first | omega | assumption), Zw.hl rfl q1, hold_len (.atom _ _ rfl) (.atom _ _ rfl), hold_bool (.atom _ _ rfl) (.atom _ _ rfl) (op_lss_t q2), hold_idx v3 l3 (.atom _ _ rfl) (.atom _ _ rfl) (by omega) rfl, hold_op (.atom _ _ rfl) (.int _ _) o6 (.atom _ _ rfl), trivial⟩ Zw.i157 (rowsHold_cons (Elem.row v3 (VL.cons (vb z4) VL.nil)) rowsHold_nil) Zw.r157 (Zw.n48 r0 h1 b1 g6 (by constructor <;> omega)) rfl rfl rfl rfl
      ·
        obtain ⟨d7, e7, g7, o7⟩ := ex_add x1 (1 : Int)
        exact Zw.nx Zw.t158 [(.int .i64 (m1 : Int)), (.int .i64 d7)] [] (Zw.k2 _) ⟨Zw.hl rfl (by first | omega | assumption), Zw.hl rfl q1, hold_len (.atom _ _ rfl) (.atom _ _ rfl), hold_bool (.atom _ _ rfl) (.atom _ _ rfl) (op_lss_f (Int.not_lt.1 q2)), hold_op (.atom _ _ rfl) (.int _ _) o7 (.atom _ _ rfl), trivial⟩ Zw.i158 rowsHold_nil Zw.r158 (Zw.n48 r0 h1 b1 g7 (by constructor <;> omega)) rfl rfl rfl rfl
    ·
      obtain ⟨d8, e8, g8, o8⟩ := ex_add x1 (1 : Int)
      exact Zw.nx Zw.t159 [(.int .i64 d8)] [] (Zw.k2 _) ⟨Zw.hl rfl (by first | omega | assumption), hold_bool (.atom _ _ rfl) (.int _ _) (op_lss_f (Int.not_lt.1 q1)), hold_op (.atom _ _ rfl) (.int _ _) o8 (.atom _ _ rfl), trivial⟩ Zw.i159 rowsHold_nil Zw.r159 (Zw.n48 r0 h1 b1 g8 (by constructor <;> omega)) rfl rfl rfl rfl
theorem Zw.n40 {W : World} {n0 : Int} {a1 : Option Addr} {m1 c1 : Nat} {f1q0 : Nat → Bool} (r0 : R64 n0) (h1 : SlcOk W a1 m1 c1 1 (fun i => [.bool (f1q0 i)])) (b1 : (m1 : Int) < 9223372036854775808) {x1 : Int} (g1x : R64 x1) (p11 : (0 ≤ x1 ∧ x1 ≤ 103)) : NdGood Tryz.prog Tryz.f6 8 Tryz.H0 W Zw.p2 Zw.d40 [(.slice a1 m1 c1), (.int .i64 x1)] :=
  (Zw.s40 r0 h1 b1 ((103 - x1).toNat + 1)) g1x p11 (by omega)
theorem Zw.s31 {W : World} {n0 : Int} {a1 : Option Addr} {m1 c1 : Nat} {f1q0 : Nat → Bool} (r0 : R64 n0) (h1 : SlcOk W a1 m1 c1 1 (fun i => [.bool (f1q0 i)])) (b1 : (m1 : Int) < 9223372036854775808) : ∀ k : Nat, (∀ {x1 : Int} (g1x : R64 x1) (p11 : (0 ≤ x1 ∧ x1 ≤ 102)), (102 - x1) < k → NdGood Tryz.prog Tryz.f6 8 Tryz.H0 W Zw.p2 Zw.d31 [(.slice a1 m1 c1), (.int .i64 x1)]) := by
  intro k
  induction k with
  | zero =>
    intro x1 g1x p11 hk
    have ⟨gl1, gh1⟩ := g1x
    have ⟨rl0, rh0⟩ := r0
    have ⟨p11l, p11h⟩ := p11
    exfalso; omega
  | succ k ih =>
    have ih31 := @ih
    intro x1 g1x p11 hk
    have ⟨gl1, gh1⟩ := g1x
    have ⟨rl0, rh0⟩ := r0
    have ⟨p11l, p11h⟩ := p11
    by_cases q1 : x1 < (100 : Int)
    ·
      by_cases q2 : x1 < (m1 : Int)
      ·
        have l3 : (x1).toNat < m1 := by omega
        obtain ⟨p3, v3⟩ := h1.elem l3
        cases z4 : f1q0 (x1).toNat with
        | true =>
          obtain ⟨d5, e5, g5, o5⟩ := ex_add x1 (1 : Int)
          exact Zw.nx Zw.t123 [(.int .i64 (m1 : Int)), (.int .i64 d5)] [p3] (Zw.k2 _) ⟨Zw.hl rfl (by first | omega | assumption), Zw.hl rfl q1, hold_len (.atom _ _ rfl) (.atom _ _ rfl), hold_bool (.atom _ _ rfl) (.atom _ _ rfl) (op_lss_t q2), hold_idx v3 l3 (.atom _ _ rfl) (.atom _ _ rfl) (by omega) rfl, hold_op (.atom _ _ rfl) (.int _ _) o5 (.atom _ _ rfl), trivial⟩ Zw.i123 (rowsHold_cons (Elem.row v3 (VL.cons (vb z4) VL.nil)) rowsHold_nil) Zw.r123 (ih31 g5 (by constructor <;> omega) (by omega)) rfl rfl rfl rfl
        | false =>
          obtain ⟨d6, e6, g6, o6⟩ := ex_add x1 (1 : Int)
          exact Zw.nx Zw.t124 [(.int .i64 (m1 : Int)), (.int .i64 d6)] [p3] (Zw.k2 _) ⟨Zw.hl rfl (by first | omega | assumption), Zw.hl rfl q1, hold_len (.atom _ _ rfl) (.atom _ _ rfl), hold_bool (.atom _ _ rfl) (.atom _ _ rfl) (op_lss_t q2), hold_idx v3 l3 (.atom _ _ rfl) (.atom _ _ rfl) (by omega) rfl, hold_op (.atom _ _ rfl) (.int _ _) o6 (.atom _ _ rfl), trivial⟩ Zw.i124 (rowsHold_cons (Elem.row v3 (VL.cons (vb z4) VL.nil)) rowsHold_nil) Zw.r124 (Zw.n40 r0 h1 b1 g6 (by constructor <;> omega)) rfl rfl rfl rfl
      ·
        obtain ⟨d7, e7, g7, o7⟩ := ex_add x1 (1 : Int)
        exact Zw.nx Zw.t125 [(.int .i64 (m1 : Int)), (.int .i64 d7)] [] (Zw.k2 _) ⟨Zw.hl rfl (by first | omega | assumption), Zw.hl rfl q1, hold_len (.atom _ _ rfl) (.atom _ _ rfl), hold_bool (.atom _ _ rfl) (.atom _ _ rfl) (op_lss_f (Int.not_lt.1 q2)), hold_op (.atom _ _ rfl) (.int _ _) o7 (.atom _ _ rfl), trivial⟩ Zw.i125 rowsHold_nil Zw.r125 (Zw.n40 r0 h1 b1 g7 (by constructor <;> omega)) rfl rfl rfl rfl
    ·
      obtain ⟨d8, e8, g8, o8⟩ := ex_add x1 (1 : Int)
      exact Zw.nx Zw.t126 [(.int .i64 d8)] [] (Zw.k2 _) ⟨Zw.hl rfl (by first | omega | assumption), hold_bool (.atom _ _ rfl) (.int _ _) (op_lss_f (Int.not_lt.1 q1)), hold_op (.atom _ _ rfl) (.int _ _) o8 (.atom _ _ rfl), trivial⟩ Zw.i126 rowsHold_nil Zw.r126 (Zw.n40 r0 h1 b1 g8 (by constructor <;> omega)) rfl rfl rfl rfl
theorem Zw.n31 {W : World} {n0 : Int} {a1 : Option Addr} {m1 c1 : Nat} {f1q0 : Nat → Bool} (r0 : R64 n0) (h1 : SlcOk W a1 m1 c1 1 (fun i => [.bool (f1q0 i)])) (b1 : (m1 : Int) < 9223372036854775808) {x1 : Int} (g1x : R64 x1) (p11 : (0 ≤ x1 ∧ x1 ≤ 102)) : NdGood Tryz.prog Tryz.f6 8 Tryz.H0 W Zw.p2 Zw.d31 [(.slice a1 m1 c1), (.int .i64 x1)] :=
  (Zw.s31 r0 h1 b1 ((102 - x1).toNat + 1)) g1x p11 (by omega)
theorem Zw.s21 {W : World} {n0 : Int} {a1 : Option Addr} {m1 c1 : Nat} {f1q0 : Nat → Bool} (r0 : R64 n0) (h1 : SlcOk W a1 m1 c1 1 (fun i => [.bool (f1q0 i)])) (b1 : (m1 : Int) < 9223372036854775808) : ∀ k : Nat, (∀ {x1 : Int} (g1x : R64 x1) (p11 : (0 ≤ x1 ∧ x1 ≤ 101)), (101 - x1) < k → NdGood Tryz.prog Tryz.f6 8 Tryz.H0 W Zw.p2 Zw.d21 [(.slice a1 m1 c1), (.int .i64 x1)]) := by
  intro k
  induction k with
  | zero =>
    intro x1 g1x p11 hk
    have ⟨gl1, gh1⟩ := g1x
    have ⟨rl0, rh0⟩ := r0
    have ⟨p11l, p11h⟩ := p11
    exfalso; omega
  | succ k ih =>
    have ih21 := @ih
    intro x1 g1x p11 hk
    have ⟨gl1, gh1⟩ := g1x
    have ⟨rl0, rh0⟩ := r0
    have ⟨p11l, p11h⟩ := p11
    by_cases q1 : x1 < (100 : Int)
    ·
      by_cases q2 : x1 < (m1 : Int)
      ·
        have l3 : (x1).toNat < m1 := by omega
        obtain ⟨p3, v3⟩ := h1.elem l3
        cases z4 : f1q0 (x1).toNat with
        | true =>
          obtain ⟨d5, e5, g5, o5⟩ := ex_add x1 (1 : Int)
          exact Zw.nx Zw.t86 [(.int .i64 (m1 : Int)), (.int .i64 d5)] [p3] (Zw.k2 _) ⟨Zw.hl rfl (by first | omega | assumption), Zw.hl rfl q1, hold_len (.atom _ _ rfl) (.atom _ _ rfl), hold_bool (.atom _ _ rfl) (.atom _ _ rfl) (op_lss_t q2), hold_idx v3 l3 (.atom _ _ rfl) (.atom _ _ rfl) (by omega) rfl, hold_op (.atom _ _ rfl) (.int _ _) o5 (.atom _ _ rfl), trivial⟩ Zw.i86 (rowsHold_cons (Elem.row v3 (VL.cons (vb z4) VL.nil)) rowsHold_nil) Zw.r86 (ih21 g5 (by constructor <;> omega) (by omega)) rfl rfl rfl rfl
        | false =>
          obtain ⟨d6, e6, g6, o6⟩ := ex_add x1 (1 : Int)
          exact Zw.nx Zw.t87 [(.int .i64 (m1 : Int)), (.int .i64 d6)] [p3] (Zw.k2 _) ⟨Zw.hl rfl (by first | omega | assumption), Zw.hl rfl q1, hold_len (.atom _ _ rfl) (.atom _ _ rfl), hold_bool (.atom _ _ rfl) (.atom _ _ rfl) (op_lss_t q2), hold_idx v3 l3 (.atom _ _ rfl) (.atom _ _ rfl) (by omega) rfl, hold_op (.atom _ _ rfl) (.int _ _) o6 (.atom _ _ rfl), trivial⟩ Zw.i87 (rowsHold_cons (Elem.row v3 (VL.cons (vb z4) VL.nil)) rowsHold_nil) Zw.r87 (Zw.n31 r0 h1 b1 g6 (by constructor <;> omega)) rfl rfl rfl rfl
      ·
        obtain ⟨d7, e7, g7, o7⟩ := ex_add x1 (1 : Int)
        exact Zw.nx Zw.t88 [(.int .i64 (m1 : Int)), (.int .i64 d7)] [] (Zw.k2 _) ⟨Zw.hl rfl (by first | omega | assumption), Zw.hl rfl q1, hold_len (.atom _ _ rfl) (.atom _ _ rfl), hold_bool (.atom _ _ rfl) (.atom _ _ rfl) (op_lss_f (Int.not_lt.1 q2)), hold_op (.atom _ _ rfl) (.int _ _) o7 (.atom _ _ rfl), trivial⟩ Zw.i88 rowsHold_nil Zw.r88 (Zw.n31 r0 h1 b1 g7 (by constructor <;> omega)) rfl rfl rfl rfl
    ·
      obtain ⟨d8, e8, g8, o8⟩ := ex_add x1 (1 : Int)
      exact Zw.nx Zw.t89 [(.int .i64 d8)] [] (Zw.k2 _) ⟨Zw.hl rfl (by first | omega | assumption), hold_bool (.atom _ _ rfl) (.int _ _) (op_lss_f (Int.not_lt.1 q1)), hold_op (.atom _ _ rfl) (.int _ _) o8 (.atom _ _ rfl), trivial⟩ Zw.i89 rowsHold_nil Zw.r89 (Zw.n31 r0 h1 b1 g8 (by constructor <;> omega)) rfl rfl rfl rfl
theorem Zw.n21 {W : World} {n0 : Int} {a1 : Option Addr} {m1 c1 : Nat} {f1q0 : Nat → Bool} (r0 : R64 n0) (h1 : SlcOk W a1 m1 c1 1 (fun i => [.bool (f1q0 i)])) (b1 : (m1 : Int) < 9223372036854775808) {x1 : Int} (g1x : R64 x1) (p11 : (0 ≤ x1 ∧ x1 ≤ 101)) : NdGood Tryz.prog Tryz.f6 8 Tryz.H0 W Zw.p2 Zw.d21 [(.slice a1 m1 c1), (.int .i64 x1)] :=
  (Zw.s21 r0 h1 b1 ((101 - x1).toNat + 1)) g1x p11 (by omega)
theorem Zw.s10 {W : World} {n0 : Int} {a1 : Option Addr} {m1 c1 : Nat} {f1q0 : Nat → Bool} (r0 : R64 n0) (h1 : SlcOk W a1 m1 c1 1 (fun i => [.bool (f1q0 i)])) (b1 : (m1 : Int) < 9223372036854775808) : ∀ k : Nat, (∀ {x1 : Int} (g1x : R64 x1) (p11 : (0 ≤ x1 ∧ x1 ≤ 100)), (100 - x1) < k → NdGood Tryz.prog Tryz.f6 8 Tryz.H0 W Zw.p2 Zw.d10 [(.slice a1 m1 c1), (.int .i64 x1)]) := by
  intro k
  induction k with
  | zero =>
    intro x1 g1x p11 hk
    have ⟨gl1, gh1⟩ := g1x
    have ⟨rl0, rh0⟩ := r0
    have ⟨p11l, p11h⟩ := p11
    exfalso; omega
  | succ k ih =>
    have ih10 := @ih
    intro x1 g1x p11 hk
    have ⟨gl1, gh1⟩ := g1x
    have ⟨rl0, rh0⟩ := r0
    have ⟨p11l, p11h⟩ := p11
    by_cases q1 : x1 < (100 : Int)
    ·
      by_cases q2 : x1 < (m1 : Int)
      ·
        have l3 : (x1).toNat < m1 := by omega
        obtain ⟨p3, v3⟩ := h1.elem l3
        cases z4 : f1q0 (x1).toNat with
        | true =>
          obtain ⟨d5, e5, g5, o5⟩ := ex_add x1 (1 : Int)
          exact Zw.nx Zw.t45 [(.int .i64 (m1 : Int)), (.int .i64 d5)] [p3] (Zw.k2 _) ⟨Zw.hl rfl (by first | omega | assumption), Zw.hl rfl q1, hold_len (.atom _ _ rfl) (.atom _ _ rfl), hold_bool (.atom _ _ rfl) (.atom _ _ rfl) (op_lss_t q2), hold_idx v3 l3 (.atom _ _ rfl) (.atom _ _ rfl) (by omega) rfl, hold_op (.atom _ _ rfl) (.int _ _) o5 (.atom _ _ rfl), trivial⟩ Zw.i45 (rowsHold_cons (Elem.row v3 (VL.cons (vb z4) VL.nil)) rowsHold_nil) Zw.r45 (ih10 g5 (by constructor <;> omega) (by omega)) rfl rfl rfl rfl
        | false =>
          obtain ⟨d6, e6, g6, o6⟩ := ex_add x1 (1 : Int)
          exact Zw.nx Zw.t46 [(.int .i64 (m1 : Int)), (.int .i64 d6)] [p3] (Zw.k2 _) ⟨Zw.hl rfl (by first | omega | assumption), Zw.hl rfl q1, hold_len (.atom _ _ rfl) (.atom _ _ rfl), hold_bool (.atom _ _ rfl) (.atom _ _ rfl) (op_lss_t q2), hold_idx v3 l3 (.atom _ _ rfl) (.atom _ _ rfl) (by omega) rfl, hold_op (.atom _ _ rfl) (.int _ _) o6 (.atom _ _ rfl), trivial⟩ Zw.i46 (rowsHold_cons (Elem.row v3 (VL.cons (vb z4) VL.nil)) rowsHold_nil) Zw.r46 (Zw.n21 r0 h1 b1 g6 (by constructor <;> omega)) rfl rfl rfl rfl
      ·
        obtain ⟨d7, e7, g7, o7⟩ := ex_add x1 (1 : Int)
        exact Zw.nx Zw.t47 [(.int .i64 (m1 : Int)), (.int .i64 d7)] [] (Zw.k2 _) ⟨Zw.hl rfl (by first | omega | assumption), Zw.hl rfl q1, hold_len (.atom _ _ rfl) (.atom _ _ rfl), hold_bool (.atom _ _ rfl) (.atom _ _ rfl) (op_lss_f (Int.not_lt.1 q2)), hold_op (.atom _ _ rfl) (.int _ _) o7 (.atom _ _ rfl), trivial⟩ Zw.i47 rowsHold_nil Zw.r47 (Zw.n21 r0 h1 b1 g7 (by constructor <;> omega)) rfl rfl rfl rfl
    ·
      obtain ⟨d8, e8, g8, o8⟩ := ex_add x1 (1 : Int)
      exact Zw.nx Zw.t48 [(.int .i64 d8)] [] (Zw.k2 _) ⟨Zw.hl rfl (by first | omega | assumption), hold_bool (.atom _ _ rfl) (.int _ _) (op_lss_f (Int.not_lt.1 q1)), hold_op (.atom _ _ rfl) (.int _ _) o8 (.atom _ _ rfl), trivial⟩ Zw.i48 rowsHold_nil Zw.r48 (Zw.n21 r0 h1 b1 g8 (by constructor <;> omega)) rfl rfl rfl rfl
theorem Zw.n10 {W : World} {n0 : Int} {a1 : Option Addr} {m1 c1 : Nat} {f1q0 : Nat → Bool} (r0 : R64 n0) (h1 : SlcOk W a1 m1 c1 1 (fun i => [.bool (f1q0 i)])) (b1 : (m1 : Int) < 9223372036854775808) {x1 : Int} (g1x : R64 x1) (p11 : (0 ≤ x1 ∧ x1 ≤ 100)) : NdGood Tryz.prog Tryz.f6 8 Tryz.H0 W Zw.p2 Zw.d10 [(.slice a1 m1 c1), (.int .i64 x1)] :=
  (Zw.s10 r0 h1 b1 ((100 - x1).toNat + 1)) g1x p11 (by omega)
theorem Zw.n76 {W : World} {n0 : Int} {a1 : Option Addr} {m1 c1 : Nat} {f1q0 : Nat → Bool} (r0 : R64 n0) (h1 : SlcOk W a1 m1 c1 1 (fun i => [.bool (f1q0 i)])) (b1 : (m1 : Int) < 9223372036854775808) {x1 : Int} (g1x : R64 x1) (p11 : (0 ≤ x1 ∧ x1 ≤ 110)) : NdGood Tryz.prog Tryz.f6 8 Tryz.H0 W Zw.p2 Zw.d76 [(.slice a1 m1 c1), (.int .i64 x1)] := by
  have ⟨gl1, gh1⟩ := g1x
  have ⟨rl0, rh0⟩ := r0
  have ⟨p11l, p11h⟩ := p11
  exact Zw.fx Zw.t282 [] [] (Zw.k2 _) ⟨Zw.hl rfl (by first | omega | assumption), trivial⟩ Zw.i282 rfl rfl rowsHold_nil Zw.r282
theorem Zw.s74 {W : World} {n0 : Int} {a1 : Option Addr} {m1 c1 : Nat} {f1q0 : Nat → Bool} (r0 : R64 n0) (h1 : SlcOk W a1 m1 c1 1 (fun i => [.bool (f1q0 i)])) (b1 : (m1 : Int) < 9223372036854775808) : ∀ k : Nat, (∀ {x1 : Int} (g1x : R64 x1) (p11 : (0 ≤ x1 ∧ x1 ≤ 109)), (109 - x1) < k → NdGood Tryz.prog Tryz.f6 8 Tryz.H0 W Zw.p2 Zw.d74 [(.slice a1 m1 c1), (.int .i64 x1)]) := by
  intro k
  induction k with
  | zero =>
    intro x1 g1x p11 hk
    have ⟨gl1, gh1⟩ := g1x
    have ⟨rl0, rh0⟩ := r0
    have ⟨p11l, p11h⟩ := p11
    exfalso; omega
  | succ k ih =>
    have ih74 := @ih
    intro x1 g1x p11 hk
    have ⟨gl1, gh1⟩ := g1x
    have ⟨rl0, rh0⟩ := r0
    have ⟨p11l, p11h⟩ := p11
    by_cases q1 : x1 < (100 : Int)
    ·
      by_cases q2 : x1 < (m1 : Int)
      ·
        have l3 : (x1).toNat < m1 := by omega
        obtain ⟨p3, v3⟩ := h1.elem l3
        cases z4 : f1q0 (x1).toNat with
        | true =>
          obtain ⟨d5, e5, g5, o5⟩ := ex_add x1 (1 : Int)
          exact Zw.nx Zw.t274 [(.int .i64 (m1 : Int)), (.int .i64 d5)] [p3] (Zw.k2 _) ⟨Zw.hl rfl (by first | omega | assumption), Zw.hl rfl q1, hold_len (.atom _ _ rfl) (.atom _ _ rfl), hold_bool (.atom _ _ rfl) (.atom _ _ rfl) (op_lss_t q2), hold_idx v3 l3 (.atom _ _ rfl) (.atom _ _ rfl) (by omega) rfl, hold_op (.atom _ _ rfl) (.int _ _) o5 (.atom _ _ rfl), trivial⟩ Zw.i274 (rowsHold_cons (Elem.row v3 (VL.cons (vb z4) VL.nil)) rowsHold_nil) Zw.r274 (ih74 g5 (by constructor <;> omega) (by omega)) rfl rfl rfl rfl
        | false =>
          obtain ⟨d6, e6, g6, o6⟩ := ex_add x1 (1 : Int)
          exact Zw.nx Zw.t275 [(.int .i64 (m1 : Int)), (.int .i64 d6)] [p3] (Zw.k2 _) ⟨Zw.hl rfl (by first | omega | assumption), Zw.hl rfl q1, hold_len (.atom _ _ rfl) (.atom _ _ rfl), hold_bool (.atom _ _ rfl) (.atom _ _ rfl) (op_lss_t q2), hold_idx v3 l3 (.atom _ _ rfl) (.atom _ _ rfl) (by omega) rfl, hold_op (.atom _ _ rfl) (.int _ _) o6 (.atom _ _ rfl), trivial⟩ Zw.i275 (rowsHold_cons (Elem.row v3 (VL.cons (vb z4) VL.nil)) rowsHold_nil) Zw.r275 (Zw.n76 r0 h1 b1 g6 (by constructor <;> omega)) rfl rfl rfl rfl
      ·
        obtain ⟨d7, e7, g7, o7⟩ := ex_add x1 (1 : Int)
        exact Zw.nx Zw.t276 [(.int .i64 (m1 : Int)), (.int .i64 d7)] [] (Zw.k2 _) ⟨Zw.hl rfl (by first | omega | assumption), Zw.hl rfl q1, hold_len (.atom _ _ rfl) (.atom _ _ rfl), hold_bool (.atom _ _ rfl) (.atom _ _ rfl) (op_lss_f (Int.not_lt.1 q2)), hold_op (.atom _ _ rfl) (.int _ _) o7 (.atom _ _ rfl), trivial⟩ Zw.i276 rowsHold_nil Zw.r276 (Zw.n76 r0 h1 b1 g7 (by constructor <;> omega)) rfl rfl rfl rfl
    ·
      obtain ⟨d8, e8, g8, o8⟩ := ex_add x1 (1 : Int)
      exact Zw.nx Zw.t277 [(.int .i64 d8)] [] (Zw.k2 _) ⟨Zw.hl rfl (by first | omega | assumption), hold_bool (.atom _ _ rfl) (.int _ _) (op_lss_f (Int.not_lt.1 q1)), hold_op (.atom _ _ rfl) (.int _ _) o8 (.atom _ _ rfl), trivial⟩ Zw.i277 rowsHold_nil Zw.r277 (Zw.n76 r0 h1 b1 g8 (by constructor <;> omega)) rfl rfl rfl rfl
theorem Zw.n74 {W : World} {n0 : Int} {a1 : Option Addr} {m1 c1 : Nat} {f1q0 : Nat → Bool} (r0 : R64 n0) (h1 : SlcOk W a1 m1 c1 1 (fun i => [.bool (f1q0 i)])) (b1 : (m1 : Int) < 9223372036854775808) {x1 : Int} (g1x : R64 x1) (p11 : (0 ≤ x1 ∧ x1 ≤ 109)) : NdGood Tryz.prog Tryz.f6 8 Tryz.H0 W Zw.p2 Zw.d74 [(.slice a1 m1 c1), (.int .i64 x1)] :=
  (Zw.s74 r0 h1 b1 ((109 - x1).toNat + 1)) g1x p11 (by omega)
theorem Zw.s71 {W : World} {n0 : Int} {a1 : Option Addr} {m1 c1 : Nat} {f1q0 : Nat → Bool} (r0 : R64 n0) (h1 : SlcOk W a1 m1 c1 1 (fun i => [.bool (f1q0 i)])) (b1 : (m1 : Int) < 9223372036854775808) : ∀ k : Nat, (∀ {x1 : Int} (g1x : R64 x1) (p11 : (0 ≤ x1 ∧ x1 ≤ 108)), (108 - x1) < k → NdGood Tryz.prog Tryz.f6 8 Tryz.H0 W Zw.p2 Zw.d71 [(.slice a1 m1 c1), (.int .i64 x1)]) := by
  intro k
  induction k with
  | zero =>
    intro x1 g1x p11 hk
    have ⟨gl1, gh1⟩ := g1x
    have ⟨rl0, rh0⟩ := r0
    have ⟨p11l, p11h⟩ := p11
    exfalso; omega
  | succ k ih =>
    have ih71 := @ih
    intro x1 g1x p11 hk
    have ⟨gl1, gh1⟩ := g1x
    have ⟨rl0, rh0⟩ := r0
    have ⟨p11l, p11h⟩ := p11
    by_cases q1 : x1 < (100 : Int)
    ·
      by_cases q2 : x1 < (m1 : Int)
      ·
        have l3 : (x1).toNat < m1 := by omega
        obtain ⟨p3, v3⟩ := h1.elem l3
        cases z4 : f1q0 (x1).toNat with
        | true =>
          obtain ⟨d5, e5, g5, o5⟩ := ex_add x1 (1 : Int)
          exact Zw.nx Zw.t265 [(.int .i64 (m1 : Int)), (.int .i64 d5)] [p3] (Zw.k2 _) ⟨Zw.hl rfl (by first | omega | assumption), Zw.hl rfl q1, hold_len (.atom _ _ rfl) (.atom _ _ rfl), hold_bool (.atom _ _ rfl) (.atom _ _ rfl) (op_lss_t q2), hold_idx v3 l3 (.atom _ _ rfl) (.atom _ _ rfl) (by omega) rfl, hold_op (.atom _ _ rfl) (.int _ _) o5 (.atom _ _ rfl), trivial⟩ Zw.i265 (rowsHold_cons (Elem.row v3 (VL.cons (vb z4) VL.nil)) rowsHold_nil) Zw.r265 (ih71 g5 (by constructor <;> omega) (by omega)) rfl rfl rfl rfl
        | false =>
          obtain ⟨d6, e6, g6, o6⟩ := ex_add x1 (1 : Int)
          exact Zw.nx Zw.t266 [(.int .i64 (m1 : Int)), (.int .i64 d6)] [p3] (Zw.k2 _) ⟨Zw.hl rfl (by first | omega | assumption), Zw.hl rfl q1, hold_len (.atom _ _ rfl) (.atom _ _ rfl), hold_bool (.atom _ _ rfl) (.atom _ _ rfl) (op_lss_t q2), hold_idx v3 l3 (.atom _ _ rfl) (.atom _ _ rfl) (by omega) rfl, hold_op (.atom _ _ rfl) (.int _ _) o6 (.atom _ _ rfl), trivial⟩ Zw.i266 (rowsHold_cons (Elem.row v3 (VL.cons (vb z4) VL.nil)) rowsHold_nil) Zw.r266 (Zw.n74 r0 h1 b1 g6 (by constructor <;> omega)) rfl rfl rfl rfl
      ·
        obtain ⟨d7, e7, g7, o7⟩ := ex_add x1 (1 : Int)
        exact Zw.nx Zw.t267 [(.int .i64 (m1 : Int)), (.int .i64 d7)] [] (Zw.k2 _) ⟨Zw.hl rfl (by first | omega | assumption), Zw.hl rfl q1, hold_len (.atom _ _ rfl) (.atom _ _ rfl), hold_bool (.atom _ _ rfl) (.atom _ _ rfl) (op_lss_f (Int.not_lt.1 q2)), hold_op (.atom _ _ rfl) (.int _ _) o7 (.atom _ _ rfl), trivial⟩ Zw.i267 rowsHold_nil Zw.r267 (Zw.n74 r0 h1 b1 g7 (by constructor <;> omega)) rfl rfl rfl rfl
    ·
      obtain ⟨d8, e8, g8, o8⟩ := ex_add x1 (1 : Int)
      exact Zw.nx Zw.t268 [(.int .i64 d8)] [] (Zw.k2 _) ⟨Zw.hl rfl (by first | omega | assumption), hold_bool (.atom _ _ rfl) (.int _ _) (op_lss_f (Int.not_lt.1 q1)), hold_op (.atom _ _ rfl) (.int _ _) o8 (.atom _ _ rfl), trivial⟩ Zw.i268 rowsHold_nil Zw.r268 (Zw.n74 r0 h1 b1 g8 (by constructor <;> omega)) rfl rfl rfl rfl
theorem Zw.n71 {W : World} {n0 : Int} {a1 : Option Addr} {m1 c1 : Nat} {f1q0 : Nat → Bool} (r0 : R64 n0) (h1 : SlcOk W a1 m1 c1 1 (fun i => [.bool (f1q0 i)])) (b1 : (m1 : Int) < 9223372036854775808) {x1 : Int} (g1x : R64 x1) (p11 : (0 ≤ x1 ∧ x1 ≤ 108)) : NdGood Tryz.prog Tryz.f6 8 Tryz.H0 W Zw.p2 Zw.d71 [(.slice a1 m1 c1), (.int .i64 x1)] :=
  (Zw.s71 r0 h1 b1 ((108 - x1).toNat + 1)) g1x p11 (by omega)
theorem Zw.s67 {W : World} {n0 : Int} {a1 : Option Addr} {m1 c1 : Nat} {f1q0 : Nat → Bool} (r0 : R64 n0) (h1 : SlcOk W a1 m1 c1 1 (fun i => [.bool (f1q0 i)])) (b1 : (m1 : Int) < 9223372036854775808) : ∀ k : Nat, (∀ {x1 : Int} (g1x : R64 x1) (p11 : (0 ≤ x1 ∧ x1 ≤ 107)), (107 - x1) < k → NdGood Tryz.prog Tryz.f6 8 Tryz.H0 W Zw.p2 Zw.d67 [(.slice a1 m1 c1), (.int .i64 x1)]) := by
  intro k
  induction k with
  | zero =>
    intro x1 g1x p11 hk
    have ⟨gl1, gh1⟩ := g1x
    have ⟨rl0, rh0⟩ := r0
    have ⟨p11l, p11h⟩ := p11
    exfalso; omega
  | succ k ih =>
    have ih67 := @ih
    intro x1 g1x p11 hk
    have ⟨gl1, gh1⟩ := g1x
    have ⟨rl0, rh0⟩ := r0
    have ⟨p11l, p11h⟩ := p11
    by_cases q1 : x1 < (100 : Int)
    ·
      by_cases q2 : x1 < (m1 : Int)
      ·
        have l3 : (x1).toNat < m1 := by omega
        obtain ⟨p3, v3⟩ := h1.elem l3
        cases z4 : f1q0 (x1).toNat with
        | true =>
          obtain ⟨d5, e5, g5, o5⟩ := ex_add x1 (1 : Int)
          exact Zw.nx Zw.t252 [(.int .i64 (m1 : Int)), (.int .i64 d5)] [p3] (Zw.k2 _) ⟨Zw.hl rfl (by first | omega | assumption), Zw.hl rfl q1, hold_len (.atom _ _ rfl) (.atom _ _ rfl), hold_bool (.atom _ _ rfl) (.atom _ _ rfl) (op_lss_t q2), hold_idx v3 l3 (.atom _ _ rfl) (.atom _ _ rfl) (by omega) rfl, hold_op (.atom _ _ rfl) (.int _ _) o5 (.atom _ _ rfl), trivial⟩ Zw.i252 (rowsHold_cons (Elem.row v3 (VL.cons (vb z4) VL.nil)) rowsHold_nil) Zw.r252 (ih67 g5 (by constructor <;> omega) (by omega)) rfl rfl rfl rfl
        | false =>
          obtain ⟨d6, e6, g6, o6⟩ := ex_add x1 (1 : Int)
          exact Zw.nx Zw.t253 [(.int .i64 (m1 : Int)), (.int .i64 d6)] [p3] (Zw.k2 _) ⟨Zw.hl rfl (by first | omega | assumption), Zw.hl rfl q1, hold_len (.atom _ _ rfl) (.atom _ _ rfl), hold_bool (.atom _ _ rfl) (.atom _ _ rfl) (op_lss_t q2), hold_idx v3 l3 (.atom _ _ rfl) (.atom _ _ rfl) (by omega) rfl, hold_op (.atom _ _ rfl) (.int _ _) o6 (.atom _ _ rfl), trivial⟩ Zw.i253 (rowsHold_cons (Elem.row v3 (VL.cons (vb z4) VL.nil)) rowsHold_nil) Zw.r253 (Zw.n71 r0 h1 b1 g6 (by constructor <;> omega)) rfl rfl rfl rfl
      ·
        obtain ⟨d7, e7, g7, o7⟩ := ex_add x1 (1 : Int)
        exact Zw.nx Zw.t254 [(.int .i64 (m1 : Int)), (.int .i64 d7)] [] (Zw.k2 _) ⟨Zw.hl rfl (by first | omega | assumption), Zw.hl rfl q1, hold_len (.atom _ _ rfl) (.atom _ _ rfl), hold_bool (.atom _ _ rfl) (.atom _ _ rfl) (op_lss_f (Int.not_lt.1 q2)), hold_op (.atom _ _ rfl) (.int _ _) o7 (.atom _ _ rfl), trivial⟩ Zw.i254 rowsHold_nil Zw.r254 (Zw.n71 r0 h1 b1 g7 (by constructor <;> omega)) rfl rfl rfl rfl
    ·
      obtain ⟨d8, e8, g8, o8⟩ := ex_add x1 (1 : Int)
      exact Zw.nx Zw.t255 [(.int .i64 d8)] [] (Zw.k2 _) ⟨Zw.hl rfl (by first | omega | assumption), hold_bool (.atom _ _ rfl) (.int _ _) (op_lss_f (Int.not_lt.1 q1)), hold_op (.atom _ _ rfl) (.int _ _) o8 (.atom _ _ rfl), trivial⟩ Zw.i255 rowsHold_nil Zw.r255 (Zw.n71 r0 h1 b1 g8 (by constructor <;> omega)) rfl rfl rfl rfl
theorem Zw.n67 {W : World} {n0 : Int} {a1 : Option Addr} {m1 c1 : Nat} {f1q0 : Nat → Bool} (r0 : R64 n0) (h1 : SlcOk W a1 m1 c1 1 (fun i => [.bool (f1q0 i)])) (b1 : (m1 : Int) < 9223372036854775808) {x1 : Int} (g1x : R64 x1) (p11 : (0 ≤ x1 ∧ x1 ≤ 107)) : NdGood Tryz.prog Tryz.f6 8 Tryz.H0 W Zw.p2 Zw.d67 [(.slice a1 m1 c1), (.int .i64 x1)] :=
  (Zw.s67 r0 h1 b1 ((107 - x1).toNat + 1)) g1x p11 (by omega)
theorem Zw.s62 {W : World} {n0 : Int} {a1 : Option Addr} {m1 c1 : Nat} {f1q0 : Nat → Bool} (r0 : R64 n0) (h1 : SlcOk W a1 m1 c1 1 (fun i => [.bool (f1q0 i)])) (b1 : (m1 : Int) < 9223372036854775808) : ∀ k : Nat, (∀ {x1 : Int} (g1x : R64 x1) (p11 : (0 ≤ x1 ∧ x1 ≤ 106)), (106 - x1) < k → NdGood Tryz.prog Tryz.f6 8 Tryz.H0 W Zw.p2 Zw.d62 [(.slice a1 m1 c1), (.int .i64 x1)]) := by
  intro k
  induction k with
  | zero =>
    intro x1 g1x p11 hk
    have ⟨gl1, gh1⟩ := g1x
    have ⟨rl0, rh0⟩ := r0
    have ⟨p11l, p11h⟩ := p11
    exfalso; omega
  | succ k ih =>
    have ih62 := @ih
    intro x1 g1x p11 hk
    have ⟨gl1, gh1⟩ := g1x
    have ⟨rl0, rh0⟩ := r0
    have ⟨p11l, p11h⟩ := p11
    by_cases q1 : x1 < (100 : Int)
    ·
      by_cases q2 : x1 < (m1 : Int)
      ·
        have l3 : (x1).toNat < m1 := by omega
        obtain ⟨p3, v3⟩ := h1.elem l3
        cases z4 : f1q0 (x1).toNat with
        | true =>
          obtain ⟨d5, e5, g5, o5⟩ := ex_add x1 (1 : Int)
          exact Zw.nx Zw.t235 [(.int .i64 (m1 : Int)), (.int .i64 d5)] [p3] (Zw.k2 _) ⟨Zw.hl rfl (by first | omega | assumption), Zw.hl rfl q1, hold_len (.atom _ _ rfl) (.atom _ _ rfl), hold_bool (.atom _ _ rfl) (.atom _ _ rfl) (op_lss_t q2), hold_idx v3 l3 (.atom _ _ rfl) (.atom _ _ rfl) (by omega) rfl, hold_op (.atom _ _ rfl) (.int _ _) o5 (.atom _ _ rfl), trivial⟩ Zw.i235 (rowsHold_cons (Elem.row v3 (VL.cons (vb z4) VL.nil)) rowsHold_nil) Zw.r235 (ih62 g5 (by constructor <;> omega) (by omega)) rfl rfl rfl rfl
        | false =>
          obtain ⟨d6, e6, g6, o6⟩ := ex_add x1 (1 : Int)
          exact Zw.nx Zw.t236 [(.int .i64 (m1 : Int)), (.int .i64 d6)] [p3] (Zw.k2 _) ⟨Zw.hl rfl (by first | omega | assumption), Zw.hl rfl q1, hold_len (.atom _ _ rfl) (.atom _ _ rfl), hold_bool (.atom _ _ rfl) (.atom _ _ rfl) (op_lss_t q2), hold_idx v3 l3 (.atom _ _ rfl) (.atom _ _ rfl) (by omega) rfl, hold_op (.atom _ _ rfl) (.int _ _) o6 (.atom _ _ rfl), trivial⟩ Zw.i236 (rowsHold_cons (Elem.row v3 (VL.cons (vb z4) VL.nil)) rowsHold_nil) Zw.r236 (Zw.n67 r0 h1 b1 g6 (by constructor <;> omega)) rfl rfl rfl rfl
      ·
        obtain ⟨d7, e7, g7, o7⟩ := ex_add x1 (1 : Int)
        exact Zw.nx Zw.t237 [(.int .i64 (m1 : Int)), (.int .i64 d7)] [] (Zw.k2 _) ⟨Zw.hl rfl (by first | omega | assumption), Zw.hl rfl q1, hold_len (.atom _ _ rfl) (.atom _ _ rfl), hold_bool (.atom _ _ rfl) (.atom _ _ rfl) (op_lss_f (Int.not_lt.1 q2)), hold_op (.atom _ _ rfl) (.int _ _) o7 (.atom _ _ rfl), trivial⟩ Zw.i237 rowsHold_nil Zw.r237 (Zw.n67 r0 h1 b1 g7 (by constructor <;> omega)) rfl rfl rfl rfl
    ·
      obtain ⟨d8, e8, g8, o8⟩ := ex_add x1 (1 : Int)
      exact Zw.nx Zw.t238 [(.int .i64 d8)] [] (Zw.k2 _) ⟨Zw.hl rfl (by first | omega | assumption), hold_bool (.atom _ _ rfl) (.int _ _) (op_lss_f (Int.not_lt.1 q1)), hold_op (.atom _ _ rfl) (.int _ _) o8 (.atom _ _ rfl), trivial⟩ Zw.i238 rowsHold_nil Zw.r238 (Zw.n67 r0 h1 b1 g8 (by constructor <;> omega)) rfl rfl rfl rfl
theorem Zw.n62 {W : World} {n0 : Int} {a1 : Option Addr} {m1 c1 : Nat} {f1q0 : Nat → Bool} (r0 : R64 n0) (h1 : SlcOk W a1 m1 c1 1 (fun i => [.bool (f1q0 i)])) (b1 : (m1 : Int) < 9223372036854775808) {x1 : Int} (g1x : R64 x1) (p11 : (0 ≤ x1 ∧ x1 ≤ 106)) : NdGood Tryz.prog Tryz.f6 8 Tryz.H0 W Zw.p2 Zw.d62 [(.slice a1 m1 c1), (.int .i64 x1)] :=
  (Zw.s62 r0 h1 b1 ((106 - x1).toNat + 1)) g1x p11 (by omega)
theorem Zw.s56 {W : World} {n0 : Int} {a1 : Option Addr} {m1 c1 : Nat} {f1q0 : Nat → Bool} (r0 : R64 n0) (h1 : SlcOk W a1 m1 c1 1 (fun i => [.bool (f1q0 i)])) (b1 : (m1 : Int) < 9223372036854775808) : ∀ k : Nat, (∀ {x1 : Int} (g1x : R64 x1) (p11 : (0 ≤ x1 ∧ x1 ≤ 105)), (105 - x1) < k → NdGood Tryz.prog Tryz.f6 8 Tryz.H0 W Zw.p2 Zw.d56 [(.slice a1 m1 c1), (.int .i64 x1)]) := by
  intro k
  induction k with
  | zero =>
    intro x1 g1x p11 hk
    have ⟨gl1, gh1⟩ := g1x
    have ⟨rl0, rh0⟩ := r0
    have ⟨p11l, p11h⟩ := p11
    exfalso; omega
  | succ k ih =>
    have ih56 := @ih
    intro x1 g1x p11 hk
    have ⟨gl1, gh1⟩ := g1x
    have ⟨rl0, rh0⟩ := r0
    have ⟨p11l, p11h⟩ := p11
    by_cases q1 : x1 < (100 : Int)
    ·
      by_cases q2 : x1 < (m1 : Int)
      ·
        have l3 : (x1).toNat < m1 := by omega
        obtain ⟨p3, v3⟩ := h1.elem l3
        cases z4 : f1q0 (x1).toNat with
        | true =>
          obtain ⟨d5, e5, g5, o5⟩ := ex_add x1 (1 : Int)
          exact Zw.nx Zw.t214 [(.int .i64 (m1 : Int)), (.int .i64 d5)] [p3] (Zw.k2 _) ⟨Zw.hl rfl (by first | omega | assumption), Zw.hl rfl q1, hold_len (.atom _ _ rfl) (.atom _ _ rfl), hold_bool (.atom _ _ rfl) (.atom _ _ rfl) (op_lss_t q2), hold_idx v3 l3 (.atom _ _ rfl) (.atom _ _ rfl) (by omega) rfl, hold_op (.atom _ _ rfl) (.int _ _) o5 (.atom _ _ rfl), trivial⟩ Zw.i214 (rowsHold_cons (Elem.row v3 (VL.cons (vb z4) VL.nil)) rowsHold_nil) Zw.r214 (ih56 g5 (by constructor <;> omega) (by omega)) rfl rfl rfl rfl
        | false =>
          obtain ⟨d6, e6, g6, o6⟩ := ex_add x1 (1 : Int)
          exact Zw.nx Zw.t215 [(.int .i64 (m1 : Int)), (.int .i64 d6)] [p3] (Zw.k2 _) ⟨Zw.hl rfl (by first | omega | assumption), Zw.hl rfl q1, hold_len (.atom _ _ rfl) (.atom _ _ rfl), hold_bool (.atom _ _ rfl) (.atom _ _ rfl) (op_lss_t q2), hold_idx v3 l3 (.atom _ _ rfl) (.atom _ _ rfl) (by omega) rfl, hold_op (.atom _ _ rfl) (.int _ _) o6 (.atom _ _ rfl), trivial⟩ Zw.i215 (rowsHold_cons (Elem.row v3 (VL.cons (vb z4) VL.nil)) rowsHold_nil) Zw.r215 (Zw.n62 r0 h1 b1 g6 (by constructor <;> omega)) rfl rfl rfl rfl
      ·
        obtain ⟨d7, e7, g7, o7⟩ := ex_add x1 (1 : Int)
        exact Zw.nx Zw.t216 [(.int .i64 (m1 : Int)), (.int .i64 d7)] [] (Zw.k2 _) ⟨Zw.hl rfl (by first | omega | assumption), Zw.hl rfl q1, hold_len (.atom _ _ rfl) (.atom _ _ rfl), hold_bool (.atom _ _ rfl) (.atom _ _ rfl) (op_lss_f (Int.not_lt.1 q2)), hold_op (.atom _ _ rfl) (.int _ _) o7 (.atom _ _ rfl), trivial⟩ Zw.i216 rowsHold_nil Zw.r216 (Zw.n62 r0 h1 b1 g7 (by constructor <;> omega)) rfl rfl rfl rfl
    ·
      obtain ⟨d8, e8, g8, o8⟩ := ex_add x1 (1 : Int)
      exact Zw.nx Zw.t217 [(.int .i64 d8)] [] (Zw.k2 _) ⟨Zw.hl rfl (by first | omega | assumption), hold_bool (.atom _ _ rfl) (.int _ _) (op_lss_f (Int.not_lt.1 q1)), hold_op (.atom _ _ rfl) (.int _ _) o8 (.atom _ _ rfl), trivial⟩ Zw.i217 rowsHold_nil Zw.r217 (Zw.n62 r0 h1 b1 g8 (by constructor <;> omega)) rfl rfl rfl rfl
theorem Zw.n56 {W : World} {n0 : Int} {a1 : Option Addr} {m1 c1 : Nat} {f1q0 : Nat → Bool} (r0 : R64 n0) (h1 : SlcOk W a1 m1 c1 1 (fun i => [.bool (f1q0 i)])) (b1 : (m1 : Int) < 9223372036854775808) {x1 : Int} (g1x : R64 x1) (p11 : (0 ≤ x1 ∧ x1 ≤ 105)) : NdGood Tryz.prog Tryz.f6 8 Tryz.H0 W Zw.p2 Zw.d56 [(.slice a1 m1 c1), (.int .i64 x1)] :=
  (Zw.s56 r0 h1 b1 ((105 - x1).toNat + 1)) g1x p11 (by omega)
theorem Zw.s49 {W : World} {n0 : Int} {a1 : Option Addr} {m1 c1 : Nat} {f1q0 : Nat → Bool} (r0 : R64 n0) (h1 : SlcOk W a1 m1 c1 1 (fun i => [.bool (f1q0 i)])) (b1 : (m1 : Int) < 9223372036854775808) : ∀ k : Nat, (∀ {x1 : Int} (g1x : R64 x1) (p11 : (0 ≤ x1 ∧ x1 ≤ 104)), (104 - x1) < k → NdGood Tryz.prog Tryz.f6 8 Tryz.H0 W Zw.p2 Zw.d49 [(.slice a1 m1 c1), (.int .i64 x1)]) := by
  intro k
  induction k with
  | zero =>
    intro x1 g1x p11 hk
    have ⟨gl1, gh1⟩ := g1x
    have ⟨rl0, rh0⟩ := r0
    have ⟨p11l, p11h⟩ := p11
    exfalso; omega
  | succ k ih =>
    have ih49 := @ih
    intro x1 g1x p11 hk
    have ⟨gl1, gh1⟩ := g1x
    have ⟨rl0, rh0⟩ := r0
    have ⟨p11l, p11h⟩ := p11
    by_cases q1 : x1 < (100 : Int)
    ·
      by_cases q2 : x1 < (m1 : Int)
      ·
        have l3 : (x1).toNat < m1 := by omega
        obtain ⟨p3, v3⟩ := h1.elem l3
        cases z4 : f1q0 (x1).toNat with
        | true =>
          obtain ⟨d5, e5, g5, o5⟩ := ex_add x1 (1 : Int)
          exact Zw.nx Zw.t189 [(.int .i64 (m1 : Int)), (.int .i64 d5)] [p3] (Zw.k2 _) ⟨Zw.hl rfl (by first | omega | assumption), Zw.hl rfl q1, hold_len (.atom _ _ rfl) (.atom _ _ rfl), hold_bool (.atom _ _ rfl) (.atom _ _ rfl) (op_lss_t q2), hold_idx v3 l3 (.atom _ _ rfl) (.atom _ _ rfl) (by omega) rfl, hold_op (.atom _ _ rfl) (.int _ _) o5 (.atom _ _ rfl), trivial⟩ Zw.i189 (rowsHold_cons (Elem.row v3 (VL.cons (vb z4) VL.nil)) rowsHold_nil) Zw.r189 (ih49 g5 (by constructor <;> omega) (by omega)) rfl rfl rfl rfl
        | false =>
          obtain ⟨d6, e6, g6, o6⟩ := ex_add x1 (1 : Int)
          exact Zw.nx Zw.t190 [(.int .i64 (m1 : Int)), (.int .i64 d6)] [p3] (Zw.k2 _) ⟨Zw.hl rfl (by first | omega | assumption), Zw.hl rfl q1, hold_len (.atom _ _ rfl) (.atom _ _ rfl), hold_bool (.atom _ _ rfl) (.atom _ _ rfl) (op_lss_t q2), hold_idx v3 l3 (.atom _ _ rfl) (.atom _ _ rfl) (by omega) rfl, hold_op (.atom _ _ rfl) (.int _ _) o6 (.atom _ _ rfl), trivial⟩ Zw.i190 (rowsHold_cons (Elem.row v3 (VL.cons (vb z4) VL.nil)) rowsHold_nil) Zw.r190 (Zw.n56 r0 h1 b1 g6 (by constructor <;> omega)) rfl rfl rfl rfl
      ·
        obtain ⟨d7, e7, g7, o7⟩ := ex_add x1 (1 : Int)
        exact Zw.nx Zw.t191 [(.int .i64 (m1 : Int)), (.int .i64 d7)] [] (Zw.k2 _) ⟨Zw.hl rfl (by first | omega | assumption), Zw.hl rfl q1, hold_len (.atom _ _ rfl) (.atom _ _ rfl), hold_bool (.atom _ _ rfl) (.atom _ _ rfl) (op_lss_f (Int.not_lt.1 q2)), hold_op (.atom _ _ rfl) (.int _ _) o7 (.atom _ _ rfl), trivial⟩ Zw.i191 rowsHold_nil Zw.r191 (Zw.n56 r0 h1 b1 g7 (by constructor <;> omega)) rfl rfl rfl rfl
    ·
      obtain ⟨d8, e8, g8, o8⟩ := ex_add x1 (1 : Int)
      exact Zw.nx Zw.t192 [(.int .i64 d8)] [] (Zw.k2 _) ⟨Zw.hl rfl (by first | omega | assumption), hold_bool (.atom _ _ rfl) (.int _ _) (op_lss_f (Int.not_lt.1 q1)), hold_op (.atom _ _ rfl) (.int _ _) o8 (.atom _ _ rfl), trivial⟩ Zw.i192 rowsHold_nil Zw.r192 (Zw.n56 r0 h1 b1 g8 (by constructor <;> omega)) rfl rfl rfl rfl
theorem Zw.n49 {W : World} {n0 : Int} {a1 : Option Addr} {m1 c1 : Nat} {f1q0 : Nat → Bool} (r0 : R64 n0) (h1 : SlcOk W a1 m1 c1 1 (fun i => [.bool (f1q0 i)])) (b1 : (m1 : Int) < 9223372036854775808) {x1 : Int} (g1x : R64 x1) (p11 : (0 ≤ x1 ∧ x1 ≤ 104)) : NdGood Tryz.prog Tryz.f6 8 Tryz.H0 W Zw.p2 Zw.d49 [(.slice a1 m1 c1), (.int .i64 x1)] :=
  (Zw.s49 r0 h1 b1 ((104 - x1).toNat + 1)) g1x p11 (by omega)
theorem Zw.s41 {W : World} {n0 : Int} {a1 : Option Addr} {m1 c1 : Nat} {f1q0 : Nat → Bool} (r0 : R64 n0) (h1 : SlcOk W a1 m1 c1 1 (fun i => [.bool (f1q0 i)])) (b1 : (m1 : Int) < 9223372036854775808) : ∀ k : Nat, (∀ {x1 : Int} (g1x : R64 x1) (p11 : (0 ≤ x1 ∧ x1 ≤ 103)), (103 - x1) < k → NdGood Tryz.prog Tryz.f6 8 Tryz.H0 W Zw.p2 Zw.d41 [(.slice a1 m1 c1), (.int .i64 x1)]) := by
  intro k
  induction k with
  | zero =>
    intro x1 g1x p11 hk
    have ⟨gl1, gh1⟩ := g1x
    have ⟨rl0, rh0⟩ := r0
    have ⟨p11l, p11h⟩ := p11
    exfalso; omega
  | succ k ih =>
    have ih41 := @ih
    intro x1 g1x p11 hk
    have ⟨gl1, gh1⟩ := g1x
    have ⟨rl0, rh0⟩ := r0
    have ⟨p11l, p11h⟩ := p11
    by_cases q1 : x1 < (100 : Int)
    ·
      by_cases q2 : x1 < (m1 : Int)
      ·
        have l3 : (x1).toNat < m1 := by omega
        obtain ⟨p3, v3⟩ := h1.elem l3
        cases z4 : f1q0 (x1).toNat with
        | true =>
          obtain ⟨d5, e5, g5, o5⟩ := ex_add x1 (1 : Int)
          exact Zw.nx Zw.t160 [(.int .i64 (m1 : Int)), (.int .i64 d5)] [p3] (Zw.k2 _) ⟨Zw.hl rfl (by first | omega | assumption), Zw.hl rfl q1, hold_len (.atom _ _ rfl) (.atom _ _ rfl), hold_bool (.atom _ _ rfl) (.atom _ _ rfl) (op_lss_t q2), hold_idx v3 l3 (.atom _ _ rfl) (.atom _ _ rfl) (by omega) rfl, hold_op (.atom _ _ rfl) (.int _ _) o5 (.atom _ _ rfl), trivial⟩ Zw.i160 (rowsHold_cons (Elem.row v3 (VL.cons (vb z4) VL.nil)) rowsHold_nil) Zw.r160 (ih41 g5 (by constructor <;> omega) (by omega)) rfl rfl rfl rfl
        | false =>
          obtain ⟨d6, e6, g6, o6⟩ := ex_add x1 (1 : Int)
          exact Zw.nx Zw.t161 [(.int .i64 (m1 : Int)), (.int .i64 d6)] [p3] (Zw.k2 _) ⟨Zw.hl rfl (by first | omega | assumption), Zw.hl rfl q1, hold_len (.atom _ _ rfl) (.atom _ _ rfl), hold_bool (.atom _ _ rfl) (.atom _ _ rfl) (op_lss_t q2), hold_idx v3 l3 (.atom _ _ rfl) (.atom _ _ rfl) (by omega) rfl, hold_op (.atom _ _ rfl) (.int _ _) o6 (.atom _ _ rfl), trivial⟩ Zw.i161 (rowsHold_cons (Elem.row v3 (VL.cons (vb z4) VL.nil)) rowsHold_nil) Zw.r161 (Zw.n49 r0 h1 b1 g6 (by constructor <;> omega)) rfl rfl rfl rfl
      ·
        obtain ⟨d7, e7, g7, o7⟩ := ex_add x1 (1 : Int)
        exact Zw.nx Zw.t162 [(.int .i64 (m1 : Int)), (.int .i64 d7)] [] (Zw.k2 _) ⟨Zw.hl rfl (by first | omega | assumption), Zw.hl rfl q1, hold_len (.atom _ _ rfl) (.atom _ _ rfl), hold_bool (.atom _ _ rfl) (.atom _ _ rfl) (op_lss_f (Int.not_lt.1 q2)), hold_op (.atom _ _ rfl) (.int _ _) o7 (.atom _ _ rfl), trivial⟩ Zw.i162 rowsHold_nil Zw.r162 (Zw.n49 r0 h1 b1 g7 (by constructor <;> omega)) rfl rfl rfl rfl
    ·
      obtain ⟨d8, e8, g8, o8⟩ := ex_add x1 (1 : Int)
      exact Zw.nx Zw.t163 [(.int .i64 d8)] [] (Zw.k2 _) ⟨Zw.hl rfl (by first | omega | assumption), hold_bool (.atom _ _ rfl) (.int _ _) (op_lss_f (Int.not_lt.1 q1)), hold_op (.atom _ _ rfl) (.int _ _) o8 (.atom _ _ rfl), trivial⟩ Zw.i163 rowsHold_nil Zw.r163 (Zw.n49 r0 h1 b1 g8 (by constructor <;> omega)) rfl rfl rfl rfl
theorem Zw.n41 {W : World} {n0 : Int} {a1 : Option Addr} {m1 c1 : Nat} {f1q0 : Nat → Bool} (r0 : R64 n0) (h1 : SlcOk W a1 m1 c1 1 (fun i => [.bool (f1q0 i)])) (b1 : (m1 : Int) < 9223372036854775808) {x1 : Int} (g1x : R64 x1) (p11 : (0 ≤ x1 ∧ x1 ≤ 103)) : NdGood Tryz.prog Tryz.f6 8 Tryz.H0 W Zw.p2 Zw.d41 [(.slice a1 m1 c1), (.int .i64 x1)] :=
  (Zw.s41 r0 h1 b1 ((103 - x1).toNat + 1)) g1x p11 (by omega)
theorem Zw.s32 {W : World} {n0 : Int} {a1 : Option Addr} {m1 c1 : Nat} {f1q0 : Nat → Bool} (r0 : R64 n0) (h1 : SlcOk W a1 m1 c1 1 (fun i => [.bool (f1q0 i)])) (b1 : (m1 : Int) < 9223372036854775808) : ∀ k : Nat, (∀ {x1 : Int} (g1x : R64 x1) (p11 : (0 ≤ x1 ∧ x1 ≤ 102)), (102 - x1) < k → NdGood Tryz.prog Tryz.f6 8 Tryz.H0 W Zw.p2 Zw.d32 [(.slice a1 m1 c1), (.int .i64 x1)]) := by
  intro k
  induction k with
  | zero =>
    intro x1 g1x p11 hk
    have ⟨gl1, gh1⟩ := g1x
    have ⟨rl0, rh0⟩ := r0
    have ⟨p11l, p11h⟩ := p11
    exfalso; omega
  | succ k ih =>
    have ih32 := @ih
    intro x1 g1x p11 hk
    have ⟨gl1, gh1⟩ := g1x
    have ⟨rl0, rh0⟩ := r0
    have ⟨p11l, p11h⟩ := p11
    by_cases q1 : x1 < (100 : Int)
    ·
      by_cases q2 : x1 < (m1 : Int)
      ·
        have l3 : (x1).toNat < m1 := by omega
        obtain ⟨p3, v3⟩ := h1.elem l3
        cases z4 : f1q0 (x1).toNat with
        | true =>
          obtain ⟨d5, e5, g5, o5⟩ := ex_add x1 (1 : Int)
          exact Zw.nx Zw.t127 [(.int .i64 (m1 : Int)), (.int .i64 d5)] [p3] (Zw.k2 _) ⟨Zw.hl rfl (by first | omega | assumption), Zw.hl rfl q1, hold_len (.atom _ _ rfl) (.atom _ _ rfl), hold_bool (.atom _ _ rfl) (.atom _ _ rfl) (op_lss_t q2), hold_idx v3 l3 (.atom _ _ rfl) (.atom _ _ rfl) (by omega) rfl, hold_op (.atom _ _ rfl) (.int _ _) o5 (.atom _ _ rfl), trivial⟩ Zw.i127 (rowsHold_cons (Elem.row v3 (VL.cons (vb z4) VL.nil)) rowsHold_nil) Zw.r127 (ih32 g5 (by constructor <;> omega) (by omega)) rfl rfl rfl rfl
        | false =>
          obtain ⟨d6, e6, g6, o6⟩ := ex_add x1 (1 : Int)
          exact Zw.nx Zw.t128 [(.int .i64 (m1 : Int)), (.int .i64 d6)] [p3] (Zw.k2 _) ⟨Zw.hl rfl (by first | omega | assumption), Zw.hl rfl q1, hold_len (.atom _ _ rfl) (.atom _ _ rfl), hold_bool (.atom _ _ rfl) (.atom _ _ rfl) (op_lss_t q2), hold_idx v3 l3 (.atom _ _ rfl) (.atom _ _ rfl) (by omega) rfl, hold_op (.atom _ _ rfl) (.int _ _) o6 (.atom _ _ rfl), trivial⟩ Zw.i128 (rowsHold_cons (Elem.row v3 (VL.cons (vb z4) VL.nil)) rowsHold_nil) Zw.r128 (Zw.n41 r0 h1 b1 g6 (by constructor <;> omega)) rfl rfl rfl rfl
      ·
        obtain ⟨d7, e7, g7, o7⟩ := ex_add x1 (1 : Int)
        exact Zw.nx Zw.t129 [(.int .i64 (m1 : Int)), (.int .i64 d7)] [] (Zw.k2 _) ⟨Zw.hl rfl (by first | omega | assumption), Zw.hl rfl q1, hold_len (.atom _ _ rfl) (.atom _ _ rfl), hold_bool (.atom _ _ rfl) (.atom _ _ rfl) (op_lss_f (Int.not_lt.1 q2)), hold_op (.atom _ _ rfl) (.int _ _) o7 (.atom _ _ rfl), trivial⟩ Zw.i129 rowsHold_nil Zw.r129 (Zw.n41 r0 h1 b1 g7 (by constructor <;> omega)) rfl rfl rfl rfl
    ·
      obtain ⟨d8, e8, g8, o8⟩ := ex_add x1 (1 : Int)
      exact Zw.nx Zw.t130 [(.int .i64 d8)] [] (Zw.k2 _) ⟨Zw.hl rfl (by first | omega | assumption), hold_bool (.atom _ _ rfl) (.int _ _) (op_lss_f (Int.not_lt.1 q1)), hold_op (.atom _ _ rfl) (.int _ _) o8 (.atom _ _ rfl), trivial⟩ Zw.i130 rowsHold_nil Zw.r130 (Zw.n41 r0 h1 b1 g8 (by constructor <;> omega)) rfl rfl rfl rfl
theorem Zw.n32 {W : World} {n0 : Int} {a1 : Option Addr} {m1 c1 : Nat} {f1q0 : Nat → Bool} (r0 : R64 n0) (h1 : SlcOk W a1 m1 c1 1 (fun i => [.bool (f1q0 i)])) (b1 : (m1 : Int) < 9223372036854775808) {x1 : Int} (g1x : R64 x1) (p11 : (0 ≤ x1 ∧ x1 ≤ 102)) : NdGood Tryz.prog Tryz.f6 8 Tryz.H0 W Zw.p2 Zw.d32 [(.slice a1 m1 c1), (.int .i64 x1)] :=
  (Zw.s32 r0 h1 b1 ((102 - x1).toNat + 1)) g1x p11 (by omega)
theorem Zw.s22 {W : World} {n0 : Int} {a1 : Option Addr} {m1 c1 : Nat} {f1q0 : Nat → Bool} (r0 : R64 n0) (h1 : SlcOk W a1 m1 c1 1 (fun i => [.bool (f1q0 i)])) (b1 : (m1 : Int) < 9223372036854775808) : ∀ k : Nat, (∀ {x1 : Int} (g1x : R64 x1) (p11 : (0 ≤ x1 ∧ x1 ≤ 101)), (101 - x1) < k → NdGood Tryz.prog Tryz.f6 8 Tryz.H0 W Zw.p2 Zw.d22 [(.slice a1 m1 c1), (.int .i64 x1)]) := by
  intro k
  induction k with
  | zero =>
    intro x1 g1x p11 hk
    have ⟨gl1, gh1⟩ := g1x
    have ⟨rl0, rh0⟩ := r0
    have ⟨p11l, p11h⟩ := p11
    exfalso; omega
  | succ k ih =>
    have ih22 := @ih
    intro x1 g1x p11 hk
    have ⟨gl1, gh1⟩ := g1x
    have ⟨rl0, rh0⟩ := r0
    have ⟨p11l, p11h⟩ := p11
    by_cases q1 : x1 < (100 : Int)
    ·
      by_cases q2 : x1 < (m1 : Int)
      ·
        have l3 : (x1).toNat < m1 := by omega
        obtain ⟨p3, v3⟩ := h1.elem l3
        cases z4 : f1q0 (x1).toNat with
        | true =>
          obtain ⟨d5, e5, g5, o5⟩ := ex_add x1 (1 : Int)
          exact Zw.nx Zw.t90 [(.int .i64 (m1 : Int)), (.int .i64 d5)] [p3] (Zw.k2 _) ⟨Zw.hl rfl (by first | omega | assumption), Zw.hl rfl q1, hold_len (.atom _ _ rfl) (.atom _ _ rfl), hold_bool (.atom _ _ rfl) (.atom _ _ rfl) (op_lss_t q2), hold_idx v3 l3 (.atom _ _ rfl) (.atom _ _ rfl) (by omega) rfl, hold_op (.atom _ _ rfl) (.int _ _) o5 (.atom _ _ rfl), trivial⟩ Zw.i90 (rowsHold_cons (Elem.row v3 (VL.cons (vb z4) VL.nil)) rowsHold_nil) Zw.r90 (ih22 g5 (by constructor <;> omega) (by omega)) rfl rfl rfl rfl
        | false =>
          obtain ⟨d6, e6, g6, o6⟩ := ex_add x1 (1 : Int)
          exact Zw.nx Zw.t91 [(.int .i64 (m1 : Int)), (.int .i64 d6)] [p3] (Zw.k2 _) ⟨Zw.hl rfl (by first | omega | assumption), Zw.hl rfl q1, hold_len (.atom _ _ rfl) (.atom _ _ rfl), hold_bool (.atom _ _ rfl) (.atom _ _ rfl) (op_lss_t q2), hold_idx v3 l3 (.atom _ _ rfl) (.atom _ _ rfl) (by omega) rfl, hold_op (.atom _ _ rfl) (.int _ _) o6 (.atom _ _ rfl), trivial⟩ Zw.i91 (rowsHold_cons (Elem.row v3 (VL.cons (vb z4) VL.nil)) rowsHold_nil) Zw.r91 (Zw.n32 r0 h1 b1 g6 (by constructor <;> omega)) rfl rfl rfl rfl
      ·
        obtain ⟨d7, e7, g7, o7⟩ := ex_add x1 (1 : Int)
        exact Zw.nx Zw.t92 [(.int .i64 (m1 : Int)), (.int .i64 d7)] [] (Zw.k2 _) ⟨Zw.hl rfl (by first | omega | assumption), Zw.hl rfl q1, hold_len (.atom _ _ rfl) (.atom _ _ rfl), hold_bool (.atom _ _ rfl) (.atom _ _ rfl) (op_lss_f (Int.not_lt.1 q2)), hold_op (.atom _ _ rfl) (.int _ _) o7 (.atom _ _ rfl), trivial⟩ Zw.i92 rowsHold_nil Zw.r92 (Zw.n32 r0 h1 b1 g7 (by constructor <;> omega)) rfl rfl rfl rfl
    ·
      obtain ⟨d8, e8, g8, o8⟩ := ex_add x1 (1 : Int)
      exact Zw.nx Zw.t93 [(.int .i64 d8)] [] (Zw.k2 _) ⟨Zw.hl rfl (by first | omega | assumption), hold_bool (.atom _ _ rfl) (.int _ _) (op_lss_f (Int.not_lt.1 q1)), hold_op (.atom _ _ rfl) (.int _ _) o8 (.atom _ _ rfl), trivial⟩ Zw.i93 rowsHold_nil Zw.r93 (Zw.n32 r0 h1 b1 g8 (by constructor <;> omega)) rfl rfl rfl rfl
theorem Zw.n22 {W : World} {n0 : Int} {a1 : Option Addr} {m1 c1 : Nat} {f1q0 : Nat → Bool} (r0 : R64 n0) (h1 : SlcOk W a1 m1 c1 1 (fun i => [.bool (f1q0 i)])) (b1 : (m1 : Int) < 9223372036854775808) {x1 : Int} (g1x : R64 x1) (p11 : (0 ≤ x1 ∧ x1 ≤ 101)) : NdGood Tryz.prog Tryz.f6 8 Tryz.H0 W Zw.p2 Zw.d22 [(.slice a1 m1 c1), (.int .i64 x1)] :=
  (Zw.s22 r0 h1 b1 ((101 - x1).toNat + 1)) g1x p11 (by omega)
theorem Zw.s11 {W : World} {n0 : Int} {a1 : Option Addr} {m1 c1 : Nat} {f1q0 : Nat → Bool} (r0 : R64 n0) (h1 : SlcOk W a1 m1 c1 1 (fun i => [.bool (f1q0 i)])) (b1 : (m1 : Int) < 9223372036854775808) : ∀ k : Nat, (∀ {x1 : Int} (g1x : R64 x1) (p11 : (0 ≤ x1 ∧ x1 ≤ 100)), (100 - x1) < k → NdGood Tryz.prog Tryz.f6 8 Tryz.H0 W Zw.p2 Zw.d11 [(.slice a1 m1 c1), (.int .i64 x1)]) := by
  intro k
  induction k with
  | zero =>
    intro x1 g1x p11 hk
    have ⟨gl1, gh1⟩ := g1x
    have ⟨rl0, rh0⟩ := r0
    have ⟨p11l, p11h⟩ := p11
    exfalso; omega
  | succ k ih =>
    have ih11 := @ih
    intro x1 g1x p11 hk
    have ⟨gl1, gh1⟩ := g1x
    have ⟨rl0, rh0⟩ := r0
    have ⟨p11l, p11h⟩ := p11
    by_cases q1 : x1 < (100 : Int)
    ·
      by_cases q2 : x1 < (m1 : Int)
      ·
        have l3 : (x1).toNat < m1 := by omega
        obtain ⟨p3, v3⟩ := h1.elem l3
        cases z4 : f1q0 (x1).toNat with
        | true =>
          obtain ⟨d5, e5, g5, o5⟩ := ex_add x1 (1 : Int)
          exact Zw.nx Zw.t49 [(.int .i64 (m1 : Int)), (.int .i64 d5)] [p3] (Zw.k2 _) ⟨Zw.hl rfl (by first | omega | assumption), Zw.hl rfl q1, hold_len (.atom _ _ rfl) (.atom _ _ rfl), hold_bool (.atom _ _ rfl) (.atom _ _ rfl) (op_lss_t q2), hold_idx v3 l3 (.atom _ _ rfl) (.atom _ _ rfl) (by omega) rfl, hold_op (.atom _ _ rfl) (.int _ _) o5 (.atom _ _ rfl), trivial⟩ Zw.i49 (rowsHold_cons (Elem.row v3 (VL.cons (vb z4) VL.nil)) rowsHold_nil) Zw.r49 (ih11 g5 (by constructor <;> omega) (by omega)) rfl rfl rfl rfl
        | false =>
          obtain ⟨d6, e6, g6, o6⟩ := ex_add x1 (1 : Int)
          exact Zw.nx Zw.t50 [(.int .i64 (m1 : Int)), (.int .i64 d6)] [p3] (Zw.k2 _) ⟨Zw.hl rfl (by first | omega | assumption), Zw.hl rfl q1, hold_len (.atom _ _ rfl) (.atom _ _ rfl), hold_bool (.atom _ _ rfl) (.atom _ _ rfl) (op_lss_t q2), hold_idx v3 l3 (.atom _ _ rfl) (.atom _ _ rfl) (by omega) rfl, hold_op (.atom _ _ rfl) (.int _ _) o6 (.atom _ _ rfl), trivial⟩ Zw.i50 (rowsHold_cons (Elem.row v3 (VL.cons (vb z4) VL.nil)) rowsHold_nil) Zw.r50 (Zw.n22 r0 h1 b1 g6 (by constructor <;> omega)) rfl rfl rfl rfl
      ·
        obtain ⟨d7, e7, g7, o7⟩ := ex_add x1 (1 : Int)
        exact Zw.nx Zw.t51 [(.int .i64 (m1 : Int)), (.int .i64 d7)] [] (Zw.k2 _) ⟨Zw.hl rfl (by first | omega | assumption), Zw.hl rfl q1, hold_len (.atom _ _ rfl) (.atom _ _ rfl), hold_bool (.atom _ _ rfl) (.atom _ _ rfl) (op_lss_f (Int.not_lt.1 q2)), hold_op (.atom _ _ rfl) (.int _ _) o7 (.atom _ _ rfl), trivial⟩ Zw.i51 rowsHold_nil Zw.r51 (Zw.n22 r0 h1 b1 g7 (by constructor <;> omega)) rfl rfl rfl rfl
    ·
      obtain ⟨d8, e8, g8, o8⟩ := ex_add x1 (1 : Int)
      exact Zw.nx Zw.t52 [(.int .i64 d8)] [] (Zw.k2 _) ⟨Zw.hl rfl (by first | omega | assumption), hold_bool (.atom _ _ rfl) (.int _ _) (op_lss_f (Int.not_lt.1 q1)), hold_op (.atom _ _ rfl) (.int _ _) o8 (.atom _ _ rfl), trivial⟩ Zw.i52 rowsHold_nil Zw.r52 (Zw.n22 r0 h1 b1 g8 (by constructor <;> omega)) rfl rfl rfl rfl
theorem Zw.n11 {W : World} {n0 : Int} {a1 : Option Addr} {m1 c1 : Nat} {f1q0 : Nat → Bool} (r0 : R64 n0) (h1 : SlcOk W a1 m1 c1 1 (fun i => [.bool (f1q0 i)])) (b1 : (m1 : Int) < 9223372036854775808) {x1 : Int} (g1x : R64 x1) (p11 : (0 ≤ x1 ∧ x1 ≤ 100)) : NdGood Tryz.prog Tryz.f6 8 Tryz.H0 W Zw.p2 Zw.d11 [(.slice a1 m1 c1), (.int .i64 x1)] :=
  (Zw.s11 r0 h1 b1 ((100 - x1).toNat + 1)) g1x p11 (by omega)
theorem Zw.n78 {W : World} {n0 : Int} {a1 : Option Addr} {m1 c1 : Nat} {f1q0 : Nat → Bool} (r0 : R64 n0) (h1 : SlcOk W a1 m1 c1 1 (fun i => [.bool (f1q0 i)])) (b1 : (m1 : Int) < 9223372036854775808) {x1 : Int} (g1x : R64 x1) (p11 : (0 ≤ x1 ∧ x1 ≤ 111)) : NdGood Tryz.prog Tryz.f6 8 Tryz.H0 W Zw.p2 Zw.d78 [(.slice a1 m1 c1), (.int .i64 x1)] := by
  have ⟨gl1, gh1⟩ := g1x
  have ⟨rl0, rh0⟩ := r0
  have ⟨p11l, p11h⟩ := p11
  exact Zw.fx Zw.t287 [] [] (Zw.k2 _) ⟨Zw.hl rfl (by first | omega | assumption), trivial⟩ Zw.i287 rfl rfl rowsHold_nil Zw.r287
theorem Zw.s77 {W : World} {n0 : Int} {a1 : Option Addr} {m1 c1 : Nat} {f1q0 : Nat → Bool} (r0 : R64 n0) (h1 : SlcOk W a1 m1 c1 1 (fun i => [.bool (f1q0 i)])) (b1 : (m1 : Int) < 9223372036854775808) : ∀ k : Nat, (∀ {x1 : Int} (g1x : R64 x1) (p11 : (0 ≤ x1 ∧ x1 ≤ 110)), (110 - x1) < k → NdGood Tryz.prog Tryz.f6 8 Tryz.H0 W Zw.p2 Zw.d77 [(.slice a1 m1 c1), (.int .i64 x1)]) := by
  intro k
  induction k with
  | zero =>
    intro x1 g1x p11 hk
    have ⟨gl1, gh1⟩ := g1x
    have ⟨rl0, rh0⟩ := r0
    have ⟨p11l, p11h⟩ := p11
    exfalso; omega
  | succ k ih =>
    have ih77 := @ih
    intro x1 g1x p11 hk
    have ⟨gl1, gh1⟩ := g1x
    have ⟨rl0, rh0⟩ := r0
    have ⟨p11l, p11h⟩ := p11
    by_cases q1 : x1 < (100 : Int)
    ·
      by_cases q2 : x1 < (m1 : Int)
      ·
        have l3 : (x1).toNat < m1 := by omega
        obtain ⟨p3, v3⟩ := h1.elem l3
        cases z4 : f1q0 (x1).toNat with
        | true =>
          obtain ⟨d5, e5, g5, o5⟩ := ex_add x1 (1 : Int)
          exact Zw.nx Zw.t283 [(.int .i64 (m1 : Int)), (.int .i64 d5)] [p3] (Zw.k2 _) ⟨Zw.hl rfl (by first | omega | assumption), Zw.hl rfl q1, hold_len (.atom _ _ rfl) (.atom _ _ rfl), hold_bool (.atom _ _ rfl) (.atom _ _ rfl) (op_lss_t q2), hold_idx v3 l3 (.atom _ _ rfl) (.atom _ _ rfl) (by omega) rfl, hold_op (.atom _ _ rfl) (.int _ _) o5 (.atom _ _ rfl), trivial⟩ Zw.i283 (rowsHold_cons (Elem.row v3 (VL.cons (vb z4) VL.nil)) rowsHold_nil) Zw.r283 (ih77 g5 (by constructor <;> omega) (by omega)) rfl rfl rfl rfl
        | false =>
          obtain ⟨d6, e6, g6, o6⟩ := ex_add x1 (1 : Int)
          exact Zw.nx Zw.t284 [(.int .i64 (m1 : Int)), (.int .i64 d6)] [p3] (Zw.k2 _) ⟨Zw.hl rfl (by first | omega | assumption), Zw.hl rfl q1, hold_len (.atom _ _ rfl) (.atom _ _ rfl), hold_bool (.atom _ _ rfl) (.atom _ _ rfl) (op_lss_t q2), hold_idx v3 l3 (.atom _ _ rfl) (.atom _ _ rfl) (by omega) rfl, hold_op (.atom _ _ rfl) (.int _ _) o6 (.atom _ _ rfl), trivial⟩ Zw.i284 (rowsHold_cons (Elem.row v3 (VL.cons (vb z4) VL.nil)) rowsHold_nil) Zw.r284 (Zw.n78 r0 h1 b1 g6 (by constructor <;> omega)) rfl rfl rfl rfl
      ·
        obtain ⟨d7, e7, g7, o7⟩ := ex_add x1 (1 : Int)
        exact Zw.nx Zw.t285 [(.int .i64 (m1 : Int)), (.int .i64 d7)] [] (Zw.k2 _) ⟨Zw.hl rfl (by first | omega | assumption), Zw.hl rfl q1, hold_len (.atom _ _ rfl) (.atom _ _ rfl), hold_bool (.atom _ _ rfl) (.atom _ _ rfl) (op_lss_f (Int.not_lt.1 q2)), hold_op (.atom _ _ rfl) (.int _ _) o7 (.atom _ _ rfl), trivial⟩ Zw.i285 rowsHold_nil Zw.r285 (Zw.n78 r0 h1 b1 g7 (by constructor <;> omega)) rfl rfl rfl rfl
    ·
      obtain ⟨d8, e8, g8, o8⟩ := ex_add x1 (1 : Int)
      exact Zw.nx Zw.t286 [(.int .i64 d8)] [] (Zw.k2 _) ⟨Zw.hl rfl (by first | omega | assumption), hold_bool (.atom _ _ rfl) (.int _ _) (op_lss_f (Int.not_lt.1 q1)), hold_op (.atom _ _ rfl) (.int _ _) o8 (.atom _ _ rfl), trivial⟩ Zw.i286 rowsHold_nil Zw.r286 (Zw.n78 r0 h1 b1 g8 (by constructor <;> omega)) rfl rfl rfl rfl
theorem Zw.n77 {W : World} {n0 : Int} {a1 : Option Addr} {m1 c1 : Nat} {f1q0 : Nat → Bool} (r0 : R64 n0) (h1 : SlcOk W a1 m1 c1 1 (fun i => [.bool (f1q0 i)])) (b1 : (m1 : Int) < 9223372036854775808) {x1 : Int} (g1x : R64 x1) (p11 : (0 ≤ x1 ∧ x1 ≤ 110)) : NdGood Tryz.prog Tryz.f6 8 Tryz.H0 W Zw.p2 Zw.d77 [(.slice a1 m1 c1), (.int .i64 x1)] :=
  (Zw.s77 r0 h1 b1 ((110 - x1).toNat + 1)) g1x p11 (by omega)
theorem Zw.s75 {W : World} {n0 : Int} {a1 : Option Addr} {m1 c1 : Nat} {f1q0 : Nat → Bool} (r0 : R64 n0) (h1 : SlcOk W a1 m1 c1 1 (fun i => [.bool (f1q0 i)])) (b1 : (m1 : Int) < 9223372036854775808) : ∀ k : Nat, (∀ {x1 : Int} (g1x : R64 x1) (p11 : (0 ≤ x1 ∧ x1 ≤ 109)), (109 - x1) < k → NdGood Tryz.prog Tryz.f6 8 Tryz.H0 W Zw.p2 Zw.d75 [(.slice a1 m1 c1), (.int .i64 x1)]) := by
  intro k
  induction k with
  | zero =>
    intro x1 g1x p11 hk
    have ⟨gl1, gh1⟩ := g1x
    have ⟨rl0, rh0⟩ := r0
    have ⟨p11l, p11h⟩ := p11
    exfalso; omega
  | succ k ih =>
    have ih75 := @ih
    intro x1 g1x p11 hk
    have ⟨gl1, gh1⟩ := g1x
    have ⟨rl0, rh0⟩ := r0
    have ⟨p11l, p11h⟩ := p11
    by_cases q1 : x1 < (100 : Int)
    ·
      by_cases q2 : x1 < (m1 : Int)
      ·
        have l3 : (x1).toNat < m1 := by omega
        obtain ⟨p3, v3⟩ := h1.elem l3
        cases z4 : f1q0 (x1).toNat with
        | true =>
          obtain ⟨d5, e5, g5, o5⟩ := ex_add x1 (1 : Int)
          exact Zw.nx Zw.t278 [(.int .i64 (m1 : Int)), (.int .i64 d5)] [p3] (Zw.k2 _) ⟨Zw.hl rfl (by first | omega | assumption), Zw.hl rfl q1, hold_len (.atom _ _ rfl) (.atom _ _ rfl), hold_bool (.atom _ _ rfl) (.atom _ _ rfl) (op_lss_t q2), hold_idx v3 l3 (.atom _ _ rfl) (.atom _ _ rfl) (by omega) rfl, hold_op (.atom _ _ rfl) (.int _ _) o5 (.atom _ _ rfl), trivial⟩ Zw.i278 (rowsHold_cons (Elem.row v3 (VL.cons (vb z4) VL.nil)) rowsHold_nil) Zw.r278 (ih75 g5 (by constructor <;> omega) (by omega)) rfl rfl rfl rfl
        | false =>
          obtain ⟨d6, e6, g6, o6⟩ := ex_add x1 (1 : Int)
          exact Zw.nx Zw.t279 [(.int .i64 (m1 : Int)), (.int .i64 d6)] [p3] (Zw.k2 _) ⟨Zw.hl rfl (by first | omega | assumption), Zw.hl rfl q1, hold_len (.atom _ _ rfl) (.atom _ _ rfl), hold_bool (.atom _ _ rfl) (.atom _ _ rfl) (op_lss_t q2), hold_idx v3 l3 (.atom _ _ rfl) (.atom _ _ rfl) (by omega) rfl, hold_op (.atom _ _ rfl) (.int _ _) o6 (.atom _ _ rfl), trivial⟩ Zw.i279 (rowsHold_cons (Elem.row v3 (VL.cons (vb z4) VL.nil)) rowsHold_nil) Zw.r279 (Zw.n77 r0 h1 b1 g6 (by constructor <;> omega)) rfl rfl rfl rfl
      ·
        obtain ⟨d7, e7, g7, o7⟩ := ex_add x1 (1 : Int)
        exact Zw.nx Zw.t280 [(.int .i64 (m1 : Int)), (.int .i64 d7)] [] (Zw.k2 _) ⟨Zw.hl rfl (by first | omega | assumption), Zw.hl rfl q1, hold_len (.atom _ _ rfl) (.atom _ _ rfl), hold_bool (.atom _ _ rfl) (.atom _ _ rfl) (op_lss_f (Int.not_lt.1 q2)), hold_op (.atom _ _ rfl) (.int _ _) o7 (.atom _ _ rfl), trivial⟩ Zw.i280 rowsHold_nil Zw.r280 (Zw.n77 r0 h1 b1 g7 (by constructor <;> omega)) rfl rfl rfl rfl
    ·
      obtain ⟨d8, e8, g8, o8⟩ := ex_add x1 (1 : Int)
      exact Zw.nx Zw.t281 [(.int .i64 d8)] [] (Zw.k2 _) ⟨Zw.hl rfl (by first | omega | assumption), hold_bool (.atom _ _ rfl) (.int _ _) (op_lss_f (Int.not_lt.1 q1)), hold_op (.atom _ _ rfl) (.int _ _) o8 (.atom _ _ rfl), trivial⟩ Zw.i281 rowsHold_nil Zw.r281 (Zw.n77 r0 h1 b1 g8 (by constructor <;> omega)) rfl rfl rfl rfl
theorem Zw.n75 {W : World} {n0 : Int} {a1 : Option Addr} {m1 c1 : Nat} {f1q0 : Nat → Bool} (r0 : R64 n0) (h1 : SlcOk W a1 m1 c1 1 (fun i => [.bool (f1q0 i)])) (b1 : (m1 : Int) < 9223372036854775808) {x1 : Int} (g1x : R64 x1) (p11 : (0 ≤ x1 ∧ x1 ≤ 109)) : NdGood Tryz.prog Tryz.f6 8 Tryz.H0 W Zw.p2 Zw.d75 [(.slice a1 m1 c1), (.int .i64 x1)] :=
  (Zw.s75 r0 h1 b1 ((109 - x1).toNat + 1)) g1x p11 (by omega)
theorem Zw.s72 {W : World} {n0 : Int} {a1 : Option Addr} {m1 c1 : Nat} {f1q0 : Nat → Bool} (r0 : R64 n0) (h1 : SlcOk W a1 m1 c1 1 (fun i => [.bool (f1q0 i)])) (b1 : (m1 : Int) < 9223372036854775808) : ∀ k : Nat, (∀ {x1 : Int} (g1x : R64 x1) (p11 : (0 ≤ x1 ∧ x1 ≤ 108)), (108 - x1) < k → NdGood Tryz.prog Tryz.f6 8 Tryz.H0 W Zw.p2 Zw.d72 [(.slice a1 m1 c1), (.int .i64 x1)]) := by
  intro k
  induction k with
  | zero =>
    intro x1 g1x p11 hk
    have ⟨gl1, gh1⟩ := g1x
    have ⟨rl0, rh0⟩ := r0
    have ⟨p11l, p11h⟩ := p11
    exfalso; omega
  | succ k ih =>
    have ih72 := @ih
    intro x1 g1x p11 hk
    have ⟨gl1, gh1⟩ := g1x
    have ⟨rl0, rh0⟩ := r0
    have ⟨p11l, p11h⟩ := p11
    by_cases q1 : x1 < (100 : Int)
    ·
      by_cases q2 : x1 < (m1 : Int)
      ·
        have l3 : (x1).toNat < m1 := by omega
        obtain ⟨p3, v3⟩ := h1.elem l3
        cases z4 : f1q0 (x1).toNat with
        | true =>
          obtain ⟨d5, e5, g5, o5⟩ := ex_add x1 (1 : Int)
          exact Zw.nx Zw.t269 [(.int .i64 (m1 : Int)), (.int .i64 d5)] [p3] (Zw.k2 _) ⟨Zw.hl rfl (by first | omega | assumption), Zw.hl rfl q1, hold_len (.atom _ _ rfl) (.atom _ _ rfl), hold_bool (.atom _ _ rfl) (.atom _ _ rfl) (op_lss_t q2), hold_idx v3 l3 (.atom _ _ rfl) (.atom _ _ rfl) (by omega) rfl, hold_op (.atom _ _ rfl) (.int _ _) o5 (.atom _ _ rfl), trivial⟩ Zw.i269 (rowsHold_cons (Elem.row v3 (VL.cons (vb z4) VL.nil)) rowsHold_nil) Zw.r269 (ih72 g5 (by constructor <;> omega) (by omega)) rfl rfl rfl rfl
        | false =>
          obtain ⟨d6, e6, g6, o6⟩ := ex_add x1 (1 : Int)
          exact Zw.nx Zw.t270 [(.int .i64 (m1 : Int)), (.int .i64 d6)] [p3] (Zw.k2 _) ⟨Zw.hl rfl (by first | omega | assumption), Zw.hl rfl q1, hold_len (.atom _ _ rfl) (.atom _ _ rfl), hold_bool (.atom _ _ rfl) (.atom _ _ rfl) (op_lss_t q2), hold_idx v3 l3 (.atom _ _ rfl) (.atom _ _ rfl) (by omega) rfl, hold_op (.atom _ _ rfl) (.int _ _) o6 (.atom _ _ rfl), trivial⟩ Zw.i270 (rowsHold_cons (Elem.row v3 (VL.cons (vb z4) VL.nil)) rowsHold_nil) Zw.r270 (Zw.n75 r0 h1 b1 g6 (by constructor <;> omega)) rfl rfl rfl rfl
      ·
        obtain ⟨d7, e7, g7, o7⟩ := ex_add x1 (1 : Int)
        exact Zw.nx Zw.t271 [(.int .i64 (m1 : Int)), (.int .i64 d7)] [] (Zw.k2 _) ⟨Zw.hl rfl (by first | omega | assumption), Zw.hl rfl q1, hold_len (.atom _ _ rfl) (.atom _ _ rfl), hold_bool (.atom _ _ rfl) (.atom _ _ rfl) (op_lss_f (Int.not_lt.1 q2)), hold_op (.atom _ _ rfl) (.int _ _) o7 (.atom _ _ rfl), trivial⟩ Zw.i271 rowsHold_nil Zw.r271 (Zw.n75 r0 h1 b1 g7 (by constructor <;> omega)) rfl rfl rfl rfl
    ·
      obtain ⟨d8, e8, g8, o8⟩ := ex_add x1 (1 : Int)
      exact Zw.nx Zw.t272 [(.int .i64 d8)] [] (Zw.k2 _) ⟨Zw.hl rfl (by first | omega | assumption), hold_bool (.atom _ _ rfl) (.int _ _) (op_lss_f (Int.not_lt.1 q1)), hold_op (.atom _ _ rfl) (.int _ _) o8 (.atom _ _ rfl), trivial⟩ Zw.i272 rowsHold_nil Zw.r272 (Zw.n75 r0 h1 b1 g8 (by constructor <;> omega)) rfl rfl rfl rfl
theorem Zw.n72 {W : World} {n0 : Int} {a1 : Option Addr} {m1 c1 : Nat} {f1q0 : Nat → Bool} (r0 : R64 n0) (h1 : SlcOk W a1 m1 c1 1 (fun i => [.bool (f1q0 i)])) (b1 : (m1 : Int) < 9223372036854775808) {x1 : Int} (g1x : R64 x1) (p11 : (0 ≤ x1 ∧ x1 ≤ 108)) : NdGood Tryz.prog Tryz.f6 8 Tryz.H0 W Zw.p2 Zw.d72 [(.slice a1 m1 c1), (.int .i64 x1)] :=
  (Zw.s72 r0 h1 b1 ((108 - x1).toNat + 1)) g1x p11 (by omega)
theorem Zw.s68 {W : World} {n0 : Int} {a1 : Option Addr} {m1 c1 : Nat} {f1q0 : Nat → Bool} (r0 : R64 n0) (h1 : SlcOk W a1 m1 c1 1 (fun i => [.bool (f1q0 i)])) (b1 : (m1 : Int) < 9223372036854775808) : ∀ k : Nat, (∀ {x1 : Int} (g1x : R64 x1) (p11 : (0 ≤ x1 ∧ x1 ≤ 107)), (107 - x1) < k → NdGood Tryz.prog Tryz.f6 8 Tryz.H0 W Zw.p2 Zw.d68 [(.slice a1 m1 c1), (.int .i64 x1)]) := by
  intro k
  induction k with
  | zero =>
    intro x1 g1x p11 hk
    have ⟨gl1, gh1⟩ := g1x
    have ⟨rl0, rh0⟩ := r0
    have ⟨p11l, p11h⟩ := p11
    exfalso; omega
  | succ k ih =>
    have ih68 := @ih
    intro x1 g1x p11 hk
    have ⟨gl1, gh1⟩ := g1x
    have ⟨rl0, rh0⟩ := r0
    have ⟨p11l, p11h⟩ := p11
    by_cases q1 : x1 < (100 : Int)
    ·
      by_cases q2 : x1 < (m1 : Int)
      ·
        have l3 : (x1).toNat < m1 := by omega
        obtain ⟨p3, v3⟩ := h1.elem l3
        cases z4 : f1q0 (x1).toNat with
        | true =>
          obtain ⟨d5, e5, g5, o5⟩ := ex_add x1 (1 : Int)
          exact Zw.nx Zw.t256 [(.int .i64 (m1 : Int)), (.int .i64 d5)] [p3] (Zw.k2 _) ⟨Zw.hl rfl (by first | omega | assumption), Zw.hl rfl q1, hold_len (.atom _ _ rfl) (.atom _ _ rfl), hold_bool (.atom _ _ rfl) (.atom _ _ rfl) (op_lss_t q2), hold_idx v3 l3 (.atom _ _ rfl) (.atom _ _ rfl) (by omega) rfl, hold_op (.atom _ _ rfl) (.int _ _) o5 (.atom _ _ rfl), trivial⟩ Zw.i256 (rowsHold_cons (Elem.row v3 (VL.cons (vb z4) VL.nil)) rowsHold_nil) Zw.r256 (ih68 g5 (by constructor <;> omega) (by omega)) rfl rfl rfl rfl
        | false =>
          obtain ⟨d6, e6, g6, o6⟩ := ex_add x1 (1 : Int)
          exact Zw.nx Zw.t257 [(.int .i64 (m1 : Int)), (.int .i64 d6)] [p3] (Zw.k2 _) ⟨Zw.hl rfl (by first | omega | assumption), Zw.hl rfl q1, hold_len (.atom _ _ rfl) (.atom _ _ rfl), hold_bool (.atom _ _ rfl) (.atom _ _ rfl) (op_lss_t q2), hold_idx v3 l3 (.atom _ _ rfl) (.atom _ _ rfl) (by omega) rfl, hold_op (.atom _ _ rfl) (.int _ _) o6 (.atom _ _ rfl), trivial⟩ Zw.i257 (rowsHold_cons (Elem.row v3 (VL.cons (vb z4) VL.nil)) rowsHold_nil) Zw.r257 (Zw.n72 r0 h1 b1 g6 (by constructor <;> omega)) rfl rfl rfl rfl
      ·
        obtain ⟨d7, e7, g7, o7⟩ := ex_add x1 (1 : Int)
        exact Zw.nx Zw.t258 [(.int .i64 (m1 : Int)), (.int .i64 d7)] [] (Zw.k2 _) ⟨Zw.hl rfl (by first | omega | assumption), Zw.hl rfl q1, hold_len (.atom _ _ rfl) (.atom _ _ rfl), hold_bool (.atom _ _ rfl) (.atom _ _ rfl) (op_lss_f (Int.not_lt.1 q2)), hold_op (.atom _ _ rfl) (.int _ _) o7 (.atom _ _ rfl), trivial⟩ Zw.i258 rowsHold_nil Zw.r258 (Zw.n72 r0 h1 b1 g7 (by constructor <;> omega)) rfl rfl rfl rfl
    ·
      obtain ⟨d8, e8, g8, o8⟩ := ex_add x1 (1 : Int)
      exact Zw.nx Zw.t259 [(.int .i64 d8)] [] (Zw.k2 _) ⟨Zw.hl rfl (by first | omega | assumption), hold_bool (.atom _ _ rfl) (.int _ _) (op_lss_f (Int.not_lt.1 q1)), hold_op (.atom _ _ rfl) (.int _ _) o8 (.atom _ _ rfl), trivial⟩ Zw.i259 rowsHold_nil Zw.r259 (Zw.n72 r0 h1 b1 g8 (by constructor <;> omega)) rfl rfl rfl rfl
theorem Zw.n68 {W : World} {n0 : Int} {a1 : Option Addr} {m1 c1 : Nat} {f1q0 : Nat → Bool} (r0 : R64 n0) (h1 : SlcOk W a1 m1 c1 1 (fun i => [.bool (f1q0 i)])) (b1 : (m1 : Int) < 9223372036854775808) {x1 : Int} (g1x : R64 x1) (p11 : (0 ≤ x1 ∧ x1 ≤ 107)) : NdGood Tryz.prog Tryz.f6 8 Tryz.H0 W Zw.p2 Zw.d68 [(.slice a1 m1 c1), (.int .i64 x1)] :=
  (Zw.s68 r0 h1 b1 ((107 - x1).toNat + 1)) g1x p11 (by omega)
theorem Zw.s63 {W : World} {n0 : Int} {a1 : Option Addr} {m1 c1 : Nat} {f1q0 : Nat → Bool} (r0 : R64 n0) (h1 : SlcOk W a1 m1 c1 1 (fun i => [.bool (f1q0 i)])) (b1 : (m1 : Int) < 9223372036854775808) : ∀ k : Nat, (∀ {x1 : Int} (g1x : R64 x1) (p11 : (0 ≤ x1 ∧ x1 ≤ 106)), (106 - x1) < k → NdGood Tryz.prog Tryz.f6 8 Tryz.H0 W Zw.p2 Zw.d63 [(.slice a1 m1 c1), (.int .i64 x1)]) := by
  intro k
  induction k with
  | zero =>
    intro x1 g1x p11 hk
    have ⟨gl1, gh1⟩ := g1x
    have ⟨rl0, rh0⟩ := r0
    have ⟨p11l, p11h⟩ := p11
    exfalso; omega
  | succ k ih =>
    have ih63 := @ih
    intro x1 g1x p11 hk
    have ⟨gl1, gh1⟩ := g1x
    have ⟨rl0, rh0⟩ := r0
    have ⟨p11l, p11h⟩ := p11
    by_cases q1 : x1 < (100 : Int)
    ·
      by_cases q2 : x1 < (m1 : Int)
      ·
        have l3 : (x1).toNat < m1 := by omega
        obtain ⟨p3, v3⟩ := h1.elem l3
        cases z4 : f1q0 (x1).toNat with
        | true =>
          obtain ⟨d5, e5, g5, o5⟩ := ex_add x1 (1 : Int)
          exact Zw.nx Zw.t239 [(.int .i64 (m1 : Int)), (.int .i64 d5)] [p3] (Zw.k2 _) ⟨Zw.hl rfl (by first | omega | assumption), Zw.hl rfl q1, hold_len (.atom _ _ rfl) (.atom _ _ rfl), hold_bool (.atom _ _ rfl) (.atom _ _ rfl) (op_lss_t q2), hold_idx v3 l3 (.atom _ _ rfl) (.atom _ _ rfl) (by omega) rfl, hold_op (.atom _ _ rfl) (.int _ _) o5 (.atom _ _ rfl), trivial⟩ Zw.i239 (rowsHold_cons (Elem.row v3 (VL.cons (vb z4) VL.nil)) rowsHold_nil) Zw.r239 (ih63 g5 (by constructor <;> omega) (by omega)) rfl rfl rfl rfl
        | false =>
          obtain ⟨d6, e6, g6, o6⟩ := ex_add x1 (1 : Int)
          exact Zw.nx Zw.t240 [(.int .i64 (m1 : Int)), (.int .i64 d6)] [p3] (Zw.k2 _) ⟨Zw.hl rfl (by first | omega | assumption), Zw.hl rfl q1, hold_len (.atom _ _ rfl) (.atom _ _ rfl), hold_bool (.atom _ _ rfl) (.atom _ _ rfl) (op_lss_t q2), hold_idx v3 l3 (.atom _ _ rfl) (.atom _ _ rfl) (by omega) rfl, hold_op (.atom _ _ rfl) (.int _ _) o6 (.atom _ _ rfl), trivial⟩ Zw.i240 (rowsHold_cons (Elem.row v3 (VL.cons (vb z4) VL.nil)) rowsHold_nil) Zw.r240 (Zw.n68 r0 h1 b1 g6 (by constructor <;> omega)) rfl rfl rfl rfl
      ·
        obtain ⟨d7, e7, g7, o7⟩ := ex_add x1 (1 : Int)
        exact Zw.nx Zw.t241 [(.int .i64 (m1 : Int)), (.int .i64 d7)] [] (Zw.k2 _) ⟨Zw.hl rfl (by first | omega | assumption), Zw.hl rfl q1, hold_len (.atom _ _ rfl) (.atom _ _ rfl), hold_bool (.atom _ _ rfl) (.atom _ _ rfl) (op_lss_f (Int.not_lt.1 q2)), hold_op (.atom _ _ rfl) (.int _ _) o7 (.atom _ _ rfl), trivial⟩ Zw.i241 rowsHold_nil Zw.r241 (Zw.n68 r0 h1 b1 g7 (by constructor <;> omega)) rfl rfl rfl rfl
    ·
      obtain ⟨d8, e8, g8, o8⟩ := ex_add x1 (1 : Int)
      exact Zw.nx Zw.t242 [(.int .i64 d8)] [] (Zw.k2 _) ⟨Zw.hl rfl (by first | omega | assumption), hold_bool (.atom _ _ rfl) (.int _ _) (op_lss_f (Int.not_lt.1 q1)), hold_op (.atom _ _ rfl) (.int _ _) o8 (.atom _ _ rfl), trivial⟩ Zw.i242 rowsHold_nil Zw.r242 (Zw.n68 r0 h1 b1 g8 (by constructor <;> omega)) rfl rfl rfl rfl
theorem Zw.n63 {W : World} {n0 : Int} {a1 : Option Addr} {m1 c1 : Nat} {f1q0 : Nat → Bool} (r0 : R64 n0) (h1 : SlcOk W a1 m1 c1 1 (fun i => [.bool (f1q0 i)])) (b1 : (m1 : Int) < 9223372036854775808) {x1 : Int} (g1x : R64 x1) (p11 : (0 ≤ x1 ∧ x1 ≤ 106)) : NdGood Tryz.prog Tryz.f6 8 Tryz.H0 W Zw.p2 Zw.d63 [(.slice a1 m1 c1), (.int .i64 x1)] :=
  (Zw.s63 r0 h1 b1 ((106 - x1).toNat + 1)) g1x p11 (by omega)
theorem Zw.s57 {W : World} {n0 : Int} {a1 : Option Addr} {m1 c1 : Nat} {f1q0 : Nat → Bool} (r0 : R64 n0) (h1 : SlcOk W a1 m1 c1 1 (fun i => [.bool (f1q0 i)])) (b1 : (m1 : Int) < 9223372036854775808) : ∀ k : Nat, (∀ {x1 : Int} (g1x : R64 x1) (p11 : (0 ≤ x1 ∧ x1 ≤ 105)), (105 - x1) < k → NdGood Tryz.prog Tryz.f6 8 Tryz.H0 W Zw.p2 Zw.d57 [(.slice a1 m1 c1), (.int .i64 x1)]) := by
  intro k
  induction k with
  | zero =>
    intro x1 g1x p11 hk
    have ⟨gl1, gh1⟩ := g1x
    have ⟨rl0, rh0⟩ := r0
    have ⟨p11l, p11h⟩ := p11
    exfalso; omega
  | succ k ih =>
    have ih57 := @ih
    intro x1 g1x p11 hk
    have ⟨gl1, gh1⟩ := g1x
    have ⟨rl0, rh0⟩ := r0
    have ⟨p11l, p11h⟩ := p11
    by_cases q1 : x1 < (100 : Int)
    ·
      by_cases q2 : x1 < (m1 : Int)
      ·
        have l3 : (x1).toNat < m1 := by omega
        obtain ⟨p3, v3⟩ := h1.elem l3
        cases z4 : f1q0 (x1).toNat with
        | true =>
          obtain ⟨d5, e5, g5, o5⟩ := ex_add x1 (1 : Int)
          exact Zw.nx Zw.t218 [(.int .i64 (m1 : Int)), (.int .i64 d5)] [p3] (Zw.k2 _) ⟨Zw.hl rfl (by first | omega | assumption), Zw.hl rfl q1, hold_len (.atom _ _ rfl) (.atom _ _ rfl), hold_bool (.atom _ _ rfl) (.atom _ _ rfl) (op_lss_t q2), hold_idx v3 l3 (.atom _ _ rfl) (.atom _ _ rfl) (by omega) rfl, hold_op (.atom _ _ rfl) (.int _ _) o5 (.atom _ _ rfl), trivial⟩ Zw.i218 (rowsHold_cons (Elem.row v3 (VL.cons (vb z4) VL.nil)) rowsHold_nil) Zw.r218 (ih57 g5 (by constructor <;> omega) (by omega)) rfl rfl rfl rfl
        | false =>
          obtain ⟨d6, e6, g6, o6⟩ := ex_add x1 (1 : Int)
          exact Zw.nx Zw.t219 [(.int .i64 (m1 : Int)), (.int .i64 d6)] [p3] (Zw.k2 _) ⟨Zw.hl rfl (by first | omega | assumption), Zw.hl rfl q1, hold_len (.atom _ _ rfl) (.atom _ _ rfl), hold_bool (.atom _ _ rfl) (.atom _ _ rfl) (op_lss_t q2), hold_idx v3 l3 (.atom _ _ rfl) (.atom _ _ rfl) (by omega) rfl, hold_op (.atom _ _ rfl) (.int _ _) o6 (.atom _ _ rfl), trivial⟩ Zw.i219 (rowsHold_cons (Elem.row v3 (VL.cons (vb z4) VL.nil)) rowsHold_nil) Zw.r219 (Zw.n63 r0 h1 b1 g6 (by constructor <;> omega)) rfl rfl rfl rfl
      ·
        obtain ⟨d7, e7, g7, o7⟩ := ex_add x1 (1 : Int)
        exact Zw.nx Zw.t220 [(.int .i64 (m1 : Int)), (.int .i64 d7)] [] (Zw.k2 _) ⟨Zw.hl rfl (by first | omega | assumption), Zw.hl rfl q1, hold_len (.atom _ _ rfl) (.atom _ _ rfl), hold_bool (.atom _ _ rfl) (.atom _ _ rfl) (op_lss_f (Int.not_lt.1 q2)), hold_op (.atom _ _ rfl) (.int _ _) o7 (.atom _ _ rfl), trivial⟩ Zw.i220 rowsHold_nil Zw.r220 (Zw.n63 r0 h1 b1 g7 (by constructor <;> omega)) rfl rfl rfl rfl
    ·
      obtain ⟨d8, e8, g8, o8⟩ := ex_add x1 (1 : Int)
      exact Zw.nx Zw.t221 [(.int .i64 d8)] [] (Zw.k2 _) ⟨Zw.hl rfl (by first | omega | assumption), hold_bool (.atom _ _ rfl) (.int _ _) (op_lss_f (Int.not_lt.1 q1)), hold_op (.atom _ _ rfl) (.int _ _) o8 (.atom _ _ rfl), trivial⟩ Zw.i221 rowsHold_nil Zw.r221 (Zw.n63 r0 h1 b1 g8 (by constructor <;> omega)) rfl rfl rfl rfl
theorem Zw.n57 {W : World} {n0 : Int} {a1 : Option Addr} {m1 c1 : Nat} {f1q0 : Nat → Bool} (r0 : R64 n0) (h1 : SlcOk W a1 m1 c1 1 (fun i => [.bool (f1q0 i)])) (b1 : (m1 : Int) < 9223372036854775808) {x1 : Int} (g1x : R64 x1) (p11 : (0 ≤ x1 ∧ x1 ≤ 105)) : NdGood Tryz.prog Tryz.f6 8 Tryz.H0 W Zw.p2 Zw.d57 [(.slice a1 m1 c1), (.int .i64 x1)] :=
  (Zw.s57 r0 h1 b1 ((105 - x1).toNat + 1)) g1x p11 (by omega)
theorem Zw.s50 {W : World} {n0 : Int} {a1 : Option Addr} {m1 c1 : Nat} {f1q0 : Nat → Bool} (r0 : R64 n0) (h1 : SlcOk W a1 m1 c1 1 (fun i => [.bool (f1q0 i)])) (b1 : (m1 : Int) < 9223372036854775808) : ∀ k : Nat, (∀ {x1 : Int} (g1x : R64 x1) (p11 : (0 ≤ x1 ∧ x1 ≤ 104)), (104 - x1) < k → NdGood Tryz.prog Tryz.f6 8 Tryz.H0 W Zw.p2 Zw.d50 [(.slice a1 m1 c1), (.int .i64 x1)]) := by
  intro k
  induction k with
  | zero =>
    intro x1 g1x p11 hk
    have ⟨gl1, gh1⟩ := g1x
    have ⟨rl0, rh0⟩ := r0
    have ⟨p11l, p11h⟩ := p11
    exfalso; omega
  | succ k ih =>
    have ih50 := @ih
    intro x1 g1x p11 hk
    have ⟨gl1, gh1⟩ := g1x
    have ⟨rl0, rh0⟩ := r0
    have ⟨p11l, p11h⟩ := p11
    by_cases q1 : x1 < (100 : Int)
    ·
      by_cases q2 : x1 < (m1 : Int)
      ·
        have l3 : (x1).toNat < m1 := by omega
        obtain ⟨p3, v3⟩ := h1.elem l3
        cases z4 : f1q0 (x1).toNat with
        | true =>
          obtain ⟨d5, e5, g5, o5⟩ := ex_add x1 (1 : Int)
          exact Zw.nx Zw.t193 [(.int .i64 (m1 : Int)), (.int .i64 d5)] [p3] (Zw.k2 _) ⟨Zw.hl rfl (by first | omega | assumption), Zw.hl rfl q1, hold_len (.atom _ _ rfl) (.atom _ _ rfl), hold_bool (.atom _ _ rfl) (.atom _ _ rfl) (op_lss_t q2), hold_idx v3 l3 (.atom _ _ rfl) (.atom _ _ rfl) (by omega) rfl, hold_op (.atom _ _ rfl) (.int _ _) o5 (.atom _ _ rfl), trivial⟩ Zw.i193 (rowsHold_cons (Elem.row v3 (VL.cons (vb z4) VL.nil)) rowsHold_nil) Zw.r193 (ih50 g5 (by constructor <;> omega) (by omega)) rfl rfl rfl rfl
        | false =>
          obtain ⟨d6, e6, g6, o6⟩ := ex_add x1 (1 : Int)
          exact Zw.nx Zw.t194 [(.int .i64 (m1 : Int)), (.int .i64 d6)] [p3] (Zw.k2 _) ⟨Zw.hl rfl (by first | omega | assumption), Zw.hl rfl q1, hold_len (.atom _ _ rfl) (.atom _ _ rfl), hold_bool (.atom _ _ rfl) (.atom _ _ rfl) (op_lss_t q2), hold_idx v3 l3 (.atom _ _ rfl) (.atom _ _ rfl) (by omega) rfl, hold_op (.atom _ _ rfl) (.int _ _) o6 (.atom _ _ rfl), trivial⟩ Zw.i194 (rowsHold_cons (Elem.row v3 (VL.cons (vb z4) VL.nil)) rowsHold_nil) Zw.r194 (Zw.n57 r0 h1 b1 g6 (by constructor <;> omega)) rfl rfl rfl rfl
      ·
        obtain ⟨d7, e7, g7, o7⟩ := ex_add x1 (1 : Int)
        exact Zw.nx Zw.t195 [(.int .i64 (m1 : Int)), (.int .i64 d7)] [] (Zw.k2 _) ⟨Zw.hl rfl (by first | omega | assumption), Zw.hl rfl q1, hold_len (.atom _ _ rfl) (.atom _ _ rfl), hold_bool (.atom _ _ rfl) (.atom _ _ rfl) (op_lss_f (Int.not_lt.1 q2)), hold_op (.atom _ _ rfl) (.int _ _) o7 (.atom _ _ rfl), trivial⟩ Zw.i195 rowsHold_nil Zw.r195 (Zw.n57 r0 h1 b1 g7 (by constructor <;> omega)) rfl rfl rfl rfl
    ·
      obtain ⟨d8, e8, g8, o8⟩ := ex_add x1 (1 : Int)
      exact Zw.nx Zw.t196 [(.int .i64 d8)] [] (Zw.k2 _) ⟨Zw.hl rfl (by first | omega | assumption), hold_bool (.atom _ _ rfl) (.int _ _) (op_lss_f (Int.not_lt.1 q1)), hold_op (.atom _ _ rfl) (.int _ _) o8 (.atom _ _ rfl), trivial⟩ Zw.i196 rowsHold_nil Zw.r196 (Zw.n57 r0 h1 b1 g8 (by constructor <;> omega)) rfl rfl rfl rfl
theorem Zw.n50 {W : World} {n0 : Int} {a1 : Option Addr} {m1 c1 : Nat} {f1q0 : Nat → Bool} (r0 : R64 n0) (h1 : SlcOk W a1 m1 c1 1 (fun i => [.bool (f1q0 i)])) (b1 : (m1 : Int) < 9223372036854775808) {x1 : Int} (g1x : R64 x1) (p11 : (0 ≤ x1 ∧ x1 ≤ 104)) : NdGood Tryz.prog Tryz.f6 8 Tryz.H0 W Zw.p2 Zw.d50 [(.slice a1 m1 c1), (.int .i64 x1)] :=
  (Zw.s50 r0 h1 b1 ((104 - x1).toNat + 1)) g1x p11 (by omega)
theorem Zw.s42 {W : World} {n0 : Int} {a1 : Option Addr} {m1 c1 : Nat} {f1q0 : Nat → Bool} (r0 : R64 n0) (h1 : SlcOk W a1 m1 c1 1 (fun i => [.bool (f1q0 i)])) (b1 : (m1 : Int) < 9223372036854775808) : ∀ k : Nat, (∀ {x1 : Int} (g1x : R64 x1) (p11 : (0 ≤ x1 ∧ x1 ≤ 103)), (103 - x1) < k → NdGood Tryz.prog Tryz.f6 8 Tryz.H0 W Zw.p2 Zw.d42 [(.slice a1 m1 c1), (.int .i64 x1)]) := by
  intro k
  induction k with
  | zero =>
    intro x1 g1x p11 hk
    have ⟨gl1, gh1⟩ := g1x
    have ⟨rl0, rh0⟩ := r0
    have ⟨p11l, p11h⟩ := p11
    exfalso; omega
  | succ k ih =>
    have ih42 := @ih
    intro x1 g1x p11 hk
    have ⟨gl1, gh1⟩ := g1x
    have ⟨rl0, rh0⟩ := r0
    have ⟨p11l, p11h⟩ := p11
    by_cases q1 : x1 < (100 : Int)
    ·
      by_cases q2 : x1 < (m1 : Int)
      ·
        have l3 : (x1).toNat < m1 := by omega
        obtain ⟨p3, v3⟩ := h1.elem l3
        cases z4 : f1q0 (x1).toNat with
        | true =>
          obtain ⟨d5, e5, g5, o5⟩ := ex_add x1 (1 : Int)
          exact Zw.nx Zw.t164 [(.int .i64 (m1 : Int)), (.int .i64 d5)] [p3] (Zw.k2 _) ⟨Zw.hl rfl (by first | omega | assumption), Zw.hl rfl q1, hold_len (.atom _ _ rfl) (.atom _ _ rfl), hold_bool (.atom _ _ rfl) (.atom _ _ rfl) (op_lss_t q2), hold_idx v3 l3 (.atom _ _ rfl) (.atom _ _ rfl) (by omega) rfl, hold_op (.atom _ _ rfl) (.int _ _) o5 (.atom _ _ rfl), trivial⟩ Zw.i164 (rowsHold_cons (Elem.row v3 (VL.cons (vb z4) VL.nil)) rowsHold_nil) Zw.r164 (ih42 g5 (by constructor <;> omega) (by omega)) rfl rfl rfl rfl
        | false =>
          obtain ⟨d6, e6, g6, o6⟩ := ex_add x1 (1 : Int)
          exact Zw.nx Zw.t165 [(.int .i64 (m1 : Int)), (.int .i64 d6)] [p3] (Zw.k2 _) ⟨Zw.hl rfl (by first | omega | assumption), Zw.hl rfl q1, hold_len (.atom _ _ rfl) (.atom _ _ rfl), hold_bool (.atom _ _ rfl) (.atom _ _ rfl) (op_lss_t q2), hold_idx v3 l3 (.atom _ _ rfl) (.atom _ _ rfl) (by omega) rfl, hold_op (.atom _ _ rfl) (.int _ _) o6 (.atom _ _ rfl), trivial⟩ Zw.i165 (rowsHold_cons (Elem.row v3 (VL.cons (vb z4) VL.nil)) rowsHold_nil) Zw.r165 (Zw.n50 r0 h1 b1 g6 (by constructor <;> omega)) rfl rfl rfl rfl
      ·
        obtain ⟨d7, e7, g7, o7⟩ := ex_add x1 (1 : Int)
        exact Zw.nx Zw.t166 [(.int .i64 (m1 : Int)), (.int .i64 d7)] [] (Zw.k2 _) ⟨Zw.hl rfl (by first | omega | assumption), Zw.hl rfl q1, hold_len (.atom _ _ rfl) (.atom _ _ rfl), hold_bool (.atom _ _ rfl) (.atom _ _ rfl) (op_lss_f (Int.not_lt.1 q2)), hold_op (.atom _ _ rfl) (.int _ _) o7 (.atom _ _ rfl), trivial⟩ Zw.i166 rowsHold_nil Zw.r166 (Zw.n50 r0 h1 b1 g7 (by constructor <;> omega)) rfl rfl rfl rfl
    ·
      obtain ⟨d8, e8, g8, o8⟩ := ex_add x1 (1 : Int)
      exact Zw.nx Zw.t167 [(.int .i64 d8)] [] (Zw.k2 _) ⟨Zw.hl rfl (by first | omega | assumption), hold_bool (.atom _ _ rfl) (.int _ _) (op_lss_f (Int.not_lt.1 q1)), hold_op (.atom _ _ rfl) (.int _ _) o8 (.atom _ _ rfl), trivial⟩ Zw.i167 rowsHold_nil Zw.r167 (Zw.n50 r0 h1 b1 g8 (by constructor <;> omega)) rfl rfl rfl rfl
theorem Zw.n42 {W : World} {n0 : Int} {a1 : Option Addr} {m1 c1 : Nat} {f1q0 : Nat → Bool} (r0 : R64 n0) (h1 : SlcOk W a1 m1 c1 1 (fun i => [.bool (f1q0 i)])) (b1 : (m1 : Int) < 9223372036854775808) {x1 : Int} (g1x : R64 x1) (p11 : (0 ≤ x1 ∧ x1 ≤ 103)) : NdGood Tryz.prog Tryz.f6 8 Tryz.H0 W Zw.p2 Zw.d42 [(.slice a1 m1 c1), (.int .i64 x1)] :=
  (Zw.s42 r0 h1 b1 ((103 - x1).toNat + 1)) g1x p11 (by omega)
theorem Zw.s33 {W : World} {n0 : Int} {a1 : Option Addr} {m1 c1 : Nat} {f1q0 : Nat → Bool} (r0 : R64 n0) (h1 : SlcOk W a1 m1 c1 1 (fun i => [.bool (f1q0 i)])) (b1 : (m1 : Int) < 9223372036854775808) : ∀ k : Nat, (∀ {x1 : Int} (g1x : R64 x1) (p11 : (0 ≤ x1 ∧ x1 ≤ 102)), (102 - x1) < k → NdGood Tryz.prog Tryz.f6 8 Tryz.H0 W Zw.p2 Zw.d33 [(.slice a1 m1 c1), (.int .i64 x1)]) := by
  intro k
  induction k with
  | zero =>
    intro x1 g1x p11 hk
    have ⟨gl1, gh1⟩ := g1x
    have ⟨rl0, rh0⟩ := r0
    have ⟨p11l, p11h⟩ := p11
    exfalso; omega
  | succ k ih =>
    have ih33 := @ih
    intro x1 g1x p11 hk
    have ⟨gl1, gh1⟩ := g1x
    have ⟨rl0, rh0⟩ := r0
    have ⟨p11l, p11h⟩ := p11
    by_cases q1 : x1 < (100 : Int)
    ·
      by_cases q2 : x1 < (m1 : Int)
      ·
        have l3 : (x1).toNat < m1 := by omega
        obtain ⟨p3, v3⟩ := h1.elem l3
        cases z4 : f1q0 (x1).toNat with
        | true =>
          obtain ⟨d5, e5, g5, o5⟩ := ex_add x1 (1 : Int)
          exact Zw.nx Zw.t131 [(.int .i64 (m1 : Int)), (.int .i64 d5)] [p3] (Zw.k2 _) ⟨Zw.hl rfl (by first | omega | assumption), Zw.hl rfl q1, hold_len (.atom _ _ rfl) (.atom _ _ rfl), hold_bool (.atom _ _ rfl) (.atom _ _ rfl) (op_lss_t q2), hold_idx v3 l3 (.atom _ _ rfl) (.atom _ _ rfl) (by omega) rfl, hold_op (.atom _ _ rfl) (.int _ _) o5 (.atom _ _ rfl), trivial⟩ Zw.i131 (rowsHold_cons (Elem.row v3 (VL.cons (vb z4) VL.nil)) rowsHold_nil) Zw.r131 (ih33 g5 (by constructor <;> omega) (by omega)) rfl rfl rfl rfl
        | false =>
          obtain ⟨d6, e6, g6, o6⟩ := ex_add x1 (1 : Int)
          exact Zw.nx Zw.t132 [(.int .i64 (m1 : Int)), (.int .i64 d6)] [p3] (Zw.k2 _) ⟨Zw.hl rfl (by first | omega | assumption), Zw.hl rfl q1, hold_len (.atom _ _ rfl) (.atom _ _ rfl), hold_bool (.atom _ _ rfl) (.atom _ _ rfl) (op_lss_t q2), hold_idx v3 l3 (.atom _ _ rfl) (.atom _ _ rfl) (by omega) rfl, hold_op (.atom _ _ rfl) (.int _ _) o6 (.atom _ _ rfl), trivial⟩ Zw.i132 (rowsHold_cons (Elem.row v3 (VL.cons (vb z4) VL.nil)) rowsHold_nil) Zw.r132 (Zw.n42 r0 h1 b1 g6 (by constructor <;> omega)) rfl rfl rfl rfl
      ·
        obtain ⟨d7, e7, g7, o7⟩ := ex_add x1 (1 : Int)
        exact Zw.nx Zw.t133 [(.int .i64 (m1 : Int)), (.int .i64 d7)] [] (Zw.k2 _) ⟨Zw.hl rfl (by first | omega | assumption), Zw.hl rfl q1, hold_len (.atom _ _ rfl) (.atom _ _ rfl), hold_bool (.atom _ _ rfl) (.atom _ _ rfl) (op_lss_f (Int.not_lt.1 q2)), hold_op (.atom _ _ rfl) (.int _ _) o7 (.atom _ _ rfl), trivial⟩ Zw.i133 rowsHold_nil Zw.r133 (Zw.n42 r0 h1 b1 g7 (by constructor <;> omega)) rfl rfl rfl rfl
    ·
      obtain ⟨d8, e8, g8, o8⟩ := ex_add x1 (1 : Int)
      exact Zw.nx Zw.t134 [(.int .i64 d8)] [] (Zw.k2 _) ⟨Zw.hl rfl (by first | omega | assumption), hold_bool (.atom _ _ rfl) (.int _ _) (op_lss_f (Int.not_lt.1 q1)), hold_op (.atom _ _ rfl) (.int _ _) o8 (.atom _ _ rfl), trivial⟩ Zw.i134 rowsHold_nil Zw.r134 (Zw.n42 r0 h1 b1 g8 (by constructor <;> omega)) rfl rfl rfl rfl
theorem Zw.n33 {W : World} {n0 : Int} {a1 : Option Addr} {m1 c1 : Nat} {f1q0 : Nat → Bool} (r0 : R64 n0) (h1 : SlcOk W a1 m1 c1 1 (fun i => [.bool (f1q0 i)])) (b1 : (m1 : Int) < 9223372036854775808) {x1 : Int} (g1x : R64 x1) (p11 : (0 ≤ x1 ∧ x1 ≤ 102)) : NdGood Tryz.prog Tryz.f6 8 Tryz.H0 W Zw.p2 Zw.d33 [(.slice a1 m1 c1), (.int .i64 x1)] :=
  (Zw.s33 r0 h1 b1 ((102 - x1).toNat + 1)) g1x p11 (by omega)
theorem Zw.s23 {W : World} {n0 : Int} {a1 : Option Addr} {m1 c1 : Nat} {f1q0 : Nat → Bool} (r0 : R64 n0) (h1 : SlcOk W a1 m1 c1 1 (fun i => [.bool (f1q0 i)])) (b1 : (m1 : Int) < 9223372036854775808) : ∀ k : Nat, (∀ {x1 : Int} (g1x : R64 x1) (p11 : (0 ≤ x1 ∧ x1 ≤ 101)), (101 - x1) < k → NdGood Tryz.prog Tryz.f6 8 Tryz.H0 W Zw.p2 Zw.d23 [(.slice a1 m1 c1), (.int .i64 x1)]) := by
  intro k
  induction k with
  | zero =>
    intro x1 g1x p11 hk
    have ⟨gl1, gh1⟩ := g1x
    have ⟨rl0, rh0⟩ := r0
    have ⟨p11l, p11h⟩ := p11
    exfalso; omega
  | succ k ih =>
    have ih23 := @ih
    intro x1 g1x p11 hk
    have ⟨gl1, gh1⟩ := g1x
    have ⟨rl0, rh0⟩ := r0
    have ⟨p11l, p11h⟩ := p11
    by_cases q1 : x1 < (100 : Int)
    ·
      by_cases q2 : x1 < (m1 : Int)
      ·
        have l3 : (x1).toNat < m1 := by omega
        obtain ⟨p3, v3⟩ := h1.elem l3
        cases z4 : f1q0 (x1).toNat with
        | true =>
          obtain ⟨d5, e5, g5, o5⟩ := ex_add x1 (1 : Int)
          exact Zw.nx Zw.t94 [(.int .i64 (m1 : Int)), (.int .i64 d5)] [p3] (Zw.k2 _) ⟨Zw.hl rfl (by first | omega | assumption), Zw.hl rfl q1, hold_len (.atom _ _ rfl) (.atom _ _ rfl), hold_bool (.atom _ _ rfl) (.atom _ _ rfl) (op_lss_t q2), hold_idx v3 l3 (.atom _ _ rfl) (.atom _ _ rfl) (by omega) rfl, hold_op (.atom _ _ rfl) (.int _ _) o5 (.atom _ _ rfl), trivial⟩ Zw.i94 (rowsHold_cons (Elem.row v3 (VL.cons (vb z4) VL.nil)) rowsHold_nil) Zw.r94 (ih23 g5 (by constructor <;> omega) (by omega)) rfl rfl rfl rfl
        | false =>
          obtain ⟨d6, e6, g6, o6⟩ := ex_add x1 (1 : Int)
          exact Zw.nx Zw.t95 [(.int .i64 (m1 : Int)), (.int .i64 d6)] [p3] (Zw.k2 _) ⟨Zw.hl rfl (by first | omega | assumption), Zw.hl rfl q1, hold_len (.atom _ _ rfl) (.atom _ _ rfl), hold_bool (.atom _ _ rfl) (.atom _ _ rfl) (op_lss_t q2), hold_idx v3 l3 (.atom _ _ rfl) (.atom _ _ rfl) (by omega) rfl, hold_op (.atom _ _ rfl) (.int _ _) o6 (.atom _ _ rfl), trivial⟩ Zw.i95 (rowsHold_cons (Elem.row v3 (VL.cons (vb z4) VL.nil)) rowsHold_nil) Zw.r95 (Zw.n33 r0 h1 b1 g6 (by constructor <;> omega)) rfl rfl rfl rfl
      ·
        obtain ⟨d7, e7, g7, o7⟩ := ex_add x1 (1 : Int)
        exact Zw.nx Zw.t96 [(.int .i64 (m1 : Int)), (.int .i64 d7)] [] (Zw.k2 _) ⟨Zw.hl rfl (by first | omega | assumption), Zw.hl rfl q1, hold_len (.atom _ _ rfl) (.atom _ _ rfl), hold_bool (.atom _ _ rfl) (.atom _ _ rfl) (op_lss_f (Int.not_lt.1 q2)), hold_op (.atom _ _ rfl) (.int _ _) o7 (.atom _ _ rfl), trivial⟩ Zw.i96 rowsHold_nil Zw.r96 (Zw.n33 r0 h1 b1 g7 (by constructor <;> omega)) rfl rfl rfl rfl
    ·
      obtain ⟨d8, e8, g8, o8⟩ := ex_add x1 (1 : Int)
      exact Zw.nx Zw.t97 [(.int .i64 d8)] [] (Zw.k2 _) ⟨Zw.hl rfl (by first | omega | assumption), hold_bool (.atom _ _ rfl) (.int _ _) (op_lss_f (Int.not_lt.1 q1)), hold_op (.atom _ _ rfl) (.int _ _) o8 (.atom _ _ rfl), trivial⟩ Zw.i97 rowsHold_nil Zw.r97 (Zw.n33 r0 h1 b1 g8 (by constructor <;> omega)) rfl rfl rfl rfl
theorem Zw.n23 {W : World} {n0 : Int} {a1 : Option Addr} {m1 c1 : Nat} {f1q0 : Nat → Bool} (r0 : R64 n0) (h1 : SlcOk W a1 m1 c1 1 (fun i => [.bool (f1q0 i)])) (b1 : (m1 : Int) < 9223372036854775808) {x1 : Int} (g1x : R64 x1) (p11 : (0 ≤ x1 ∧ x1 ≤ 101)) : NdGood Tryz.prog Tryz.f6 8 Tryz.H0 W Zw.p2 Zw.d23 [(.slice a1 m1 c1), (.int .i64 x1)] :=
  (Zw.s23 r0 h1 b1 ((101 - x1).toNat + 1)) g1x p11 (by omega)
theorem Zw.s12 {W : World} {n0 : Int} {a1 : Option Addr} {m1 c1 : Nat} {f1q0 : Nat → Bool} (r0 : R64 n0) (h1 : SlcOk W a1 m1 c1 1 (fun i => [.bool (f1q0 i)])) (b1 : (m1 : Int) < 9223372036854775808) : ∀ k : Nat, (∀ {x1 : Int} (g1x : R64 x1) (p11 : (0 ≤ x1 ∧ x1 ≤ 100)), (100 - x1) < k → NdGood Tryz.prog Tryz.f6 8 Tryz.H0 W Zw.p2 Zw.d12 [(.slice a1 m1 c1), (.int .i64 x1)]) := by
  intro k
  induction k with
  | zero =>
    intro x1 g1x p11 hk
    have ⟨gl1, gh1⟩ := g1x
    have ⟨rl0, rh0⟩ := r0
    have ⟨p11l, p11h⟩ := p11
    exfalso; omega
  | succ k ih =>
    have ih12 := @ih
    intro x1 g1x p11 hk
    have ⟨gl1, gh1⟩ := g1x
    have ⟨rl0, rh0⟩ := r0
    have ⟨p11l, p11h⟩ := p11
    by_cases q1 : x1 < (100 : Int)
    ·
      by_cases q2 : x1 < (m1 : Int)
      ·
        have l3 : (x1).toNat < m1 := by omega
        obtain ⟨p3, v3⟩ := h1.elem l3
        cases z4 : f1q0 (x1).toNat with
        | true =>
          obtain ⟨d5, e5, g5, o5⟩ := ex_add x1 (1 : Int)
          exact Zw.nx Zw.t53 [(.int .i64 (m1 : Int)), (.int .i64 d5)] [p3] (Zw.k2 _) ⟨Zw.hl rfl (by first | omega | assumption), Zw.hl rfl q1, hold_len (.atom _ _ rfl) (.atom _ _ rfl), hold_bool (.atom _ _ rfl) (.atom _ _ rfl) (op_lss_t q2), hold_idx v3 l3 (.atom _ _ rfl) (.atom _ _ rfl) (by omega) rfl, hold_op (.atom _ _ rfl) (.int _ _) o5 (.atom _ _ rfl), trivial⟩ Zw.i53 (rowsHold_cons (Elem.row v3 (VL.cons (vb z4) VL.nil)) rowsHold_nil) Zw.r53 (ih12 g5 (by constructor <;> omega) (by omega)) rfl rfl rfl rfl
        | false =>
          obtain ⟨d6, e6, g6, o6⟩ := ex_add x1 (1 : Int)
          exact Zw.nx Zw.t54 [(.int .i64 (m1 : Int)), (.int .i64 d6)] [p3] (Zw.k2 _) ⟨Zw.hl rfl (by first | omega | assumption), Zw.hl rfl q1, hold_len (.atom _ _ rfl) (.atom _ _ rfl), hold_bool (.atom _ _ rfl) (.atom _ _ rfl) (op_lss_t q2), hold_idx v3 l3 (.atom _ _ rfl) (.atom _ _ rfl) (by omega) rfl, hold_op (.atom _ _ rfl) (.int _ _) o6 (.atom _ _ rfl), trivial⟩ Zw.i54 (rowsHold_cons (Elem.row v3 (VL.cons (vb z4) VL.nil)) rowsHold_nil) Zw.r54 (Zw.n23 r0 h1 b1 g6 (by constructor <;> omega)) rfl rfl rfl rfl
      ·
        obtain ⟨d7, e7, g7, o7⟩ := ex_add x1 (1 : Int)
        exact Zw.nx Zw.t55 [(.int .i64 (m1 : Int)), (.int .i64 d7)] [] (Zw.k2 _) ⟨Zw.hl rfl (by first | omega | assumption), Zw.hl rfl q1, hold_len (.atom _ _ rfl) (.atom _ _ rfl), hold_bool (.atom _ _ rfl) (.atom _ _ rfl) (op_lss_f (Int.not_lt.1 q2)), hold_op (.atom _ _ rfl) (.int _ _) o7 (.atom _ _ rfl), trivial⟩ Zw.i55 rowsHold_nil Zw.r55 (Zw.n23 r0 h1 b1 g7 (by constructor <;> omega)) rfl rfl rfl rfl
    ·
      obtain ⟨d8, e8, g8, o8⟩ := ex_add x1 (1 : Int)
      exact Zw.nx Zw.t56 [(.int .i64 d8)] [] (Zw.k2 _) ⟨Zw.hl rfl (by first | omega | assumption), hold_bool (.atom _ _ rfl) (.int _ _) (op_lss_f (Int.not_lt.1 q1)), hold_op (.atom _ _ rfl) (.int _ _) o8 (.atom _ _ rfl), trivial⟩ Zw.i56 rowsHold_nil Zw.r56 (Zw.n23 r0 h1 b1 g8 (by constructor <;> omega)) rfl rfl rfl rfl
theorem Zw.n12 {W : World} {n0 : Int} {a1 : Option Addr} {m1 c1 : Nat} {f1q0 : Nat → Bool} (r0 : R64 n0) (h1 : SlcOk W a1 m1 c1 1 (fun i => [.bool (f1q0 i)])) (b1 : (m1 : Int) < 9223372036854775808) {x1 : Int} (g1x : R64 x1) (p11 : (0 ≤ x1 ∧ x1 ≤ 100)) : NdGood Tryz.prog Tryz.f6 8 Tryz.H0 W Zw.p2 Zw.d12 [(.slice a1 m1 c1), (.int .i64 x1)] :=
  (Zw.s12 r0 h1 b1 ((100 - x1).toNat + 1)) g1x p11 (by omega)
theorem Zw.n0 {W : World} {n0 : Int} {a1 : Option Addr} {m1 c1 : Nat} {f1q0 : Nat → Bool} (r0 : R64 n0) (h1 : SlcOk W a1 m1 c1 1 (fun i => [.bool (f1q0 i)])) (b1 : (m1 : Int) < 9223372036854775808) : NdGood Tryz.prog Tryz.f6 8 Tryz.H0 W Zw.pS Zw.d0 [(.int .i64 n0), (.slice a1 m1 c1)] := by
  have ⟨rl0, rh0⟩ := r0
  obtain ⟨d1, ⟨y1, e1, z1, u1, w1⟩, g1, o1⟩ := ex_rem n0 (12 : Int) (by omega) (by omega)
  obtain ⟨d2, e2, g2, o2⟩ := ex_add d1 (12 : Int)
  obtain ⟨d3, ⟨y3, e3, z3, u3, w3⟩, g3, o3⟩ := ex_rem d2 (12 : Int) (by omega) (by omega)
  rcases (show d3 = 0 ∨ d3 = 1 ∨ d3 = 2 ∨ d3 = 3 ∨ d3 = 4 ∨ d3 = 5 ∨ d3 = 6 ∨ d3 = 7 ∨ d3 = 8 ∨ d3 = 9 ∨ d3 = 10 ∨ d3 = 11 by omega) with k3 | k3 | k3 | k3 | k3 | k3 | k3 | k3 | k3 | k3 | k3 | k3
  ·
    exact Zw.nx Zw.t0 [(.int .i64 d1), (.int .i64 d2)] [] (Zw.kS _) ⟨hold_op (.atom _ _ rfl) (.int _ _) (o1 .i64) (.atom _ _ rfl), hold_op (.atom _ _ rfl) (.int _ _) o2 (.atom _ _ rfl), hold_op (.atom _ _ rfl) (.int _ _) (by have := (o3 .i64); rw [k3] at this; exact this) (.int _ _), trivial⟩ Zw.i0 rowsHold_nil Zw.r0 (Zw.n1 r0 h1 b1 (x1 := 0) (by first | assumption | (constructor <;> omega) | trivial) (by constructor <;> omega)) rfl rfl rfl rfl
  ·
    exact Zw.nx Zw.t1 [(.int .i64 d1), (.int .i64 d2)] [] (Zw.kS _) ⟨hold_op (.atom _ _ rfl) (.int _ _) (o1 .i64) (.atom _ _ rfl), hold_op (.atom _ _ rfl) (.int _ _) o2 (.atom _ _ rfl), hold_op (.atom _ _ rfl) (.int _ _) (by have := (o3 .i64); rw [k3] at this; exact this) (.int _ _), trivial⟩ Zw.i1 rowsHold_nil Zw.r1 (Zw.n2 r0 h1 b1 (x1 := 0) (by first | assumption | (constructor <;> omega) | trivial) (by constructor <;> omega)) rfl rfl rfl rfl
  ·
    exact Zw.nx Zw.t2 [(.int .i64 d1), (.int .i64 d2)] [] (Zw.kS _) ⟨hold_op (.atom _ _ rfl) (.int _ _) (o1 .i64) (.atom _ _ rfl), hold_op (.atom _ _ rfl) (.int _ _) o2 (.atom _ _ rfl), hold_op (.atom _ _ rfl) (.int _ _) (by have := (o3 .i64); rw [k3] at this; exact this) (.int _ _), trivial⟩ Zw.i2 rowsHold_nil Zw.r2 (Zw.n3 r0 h1 b1 (x1 := 0) (by first | assumption | (constructor <;> omega) | trivial) (by constructor <;> omega)) rfl rfl rfl rfl
  ·
    exact Zw.nx Zw.t3 [(.int .i64 d1), (.int .i64 d2)] [] (Zw.kS _) ⟨hold_op (.atom _ _ rfl) (.int _ _) (o1 .i64) (.atom _ _ rfl), hold_op (.atom _ _ rfl) (.int _ _) o2 (.atom _ _ rfl), hold_op (.atom _ _ rfl) (.int _ _) (by have := (o3 .i64); rw [k3] at this; exact this) (.int _ _), trivial⟩ Zw.i3 rowsHold_nil Zw.r3 (Zw.n4 r0 h1 b1 (x1 := 0) (by first | assumption | (constructor <;> omega) | trivial) (by constructor <;> omega)) rfl rfl rfl rfl
  ·
    exact Zw.nx Zw.t4 [(.int .i64 d1), (.int .i64 d2)] [] (Zw.kS _) ⟨hold_op (.atom _ _ rfl) (.int _ _) (o1 .i64) (.atom _ _ rfl), hold_op (.atom _ _ rfl) (.int _ _) o2 (.atom _ _ rfl), hold_op (.atom _ _ rfl) (.int _ _) (by have := (o3 .i64); rw [k3] at this; exact this) (.int _ _), trivial⟩ Zw.i4 rowsHold_nil Zw.r4 (Zw.n5 r0 h1 b1 (x1 := 0) (by first | assumption | (constructor <;> omega) | trivial) (by constructor <;> omega)) rfl rfl rfl rfl
  ·
    exact Zw.nx Zw.t5 [(.int .i64 d1), (.int .i64 d2)] [] (Zw.kS _) ⟨hold_op (.atom _ _ rfl) (.int _ _) (o1 .i64) (.atom _ _ rfl), hold_op (.atom _ _ rfl) (.int _ _) o2 (.atom _ _ rfl), hold_op (.atom _ _ rfl) (.int _ _) (by have := (o3 .i64); rw [k3] at this; exact this) (.int _ _), trivial⟩ Zw.i5 rowsHold_nil Zw.r5 (Zw.n6 r0 h1 b1 (x1 := 0) (by first | assumption | (constructor <;> omega) | trivial) (by constructor <;> omega)) rfl rfl rfl rfl
  ·
    exact Zw.nx Zw.t6 [(.int .i64 d1), (.int .i64 d2)] [] (Zw.kS _) ⟨hold_op (.atom _ _ rfl) (.int _ _) (o1 .i64) (.atom _ _ rfl), hold_op (.atom _ _ rfl) (.int _ _) o2 (.atom _ _ rfl), hold_op (.atom _ _ rfl) (.int _ _) (by have := (o3 .i64); rw [k3] at this; exact this) (.int _ _), trivial⟩ Zw.i6 rowsHold_nil Zw.r6 (Zw.n7 r0 h1 b1 (x1 := 0) (by first | assumption | (constructor <;> omega) | trivial) (by constructor <;> omega)) rfl rfl rfl rfl
  ·
    exact Zw.nx Zw.t7 [(.int .i64 d1), (.int .i64 d2)] [] (Zw.kS _) ⟨hold_op (.atom _ _ rfl) (.int _ _) (o1 .i64) (.atom _ _ rfl), hold_op (.atom _ _ rfl) (.int _ _) o2 (.atom _ _ rfl), hold_op (.atom _ _ rfl) (.int _ _) (by have := (o3 .i64); rw [k3] at this; exact this) (.int _ _), trivial⟩ Zw.i7 rowsHold_nil Zw.r7 (Zw.n8 r0 h1 b1 (x1 := 0) (by first | assumption | (constructor <;> omega) | trivial) (by constructor <;> omega)) rfl rfl rfl rfl
  ·
    exact Zw.nx Zw.t8 [(.int .i64 d1), (.int .i64 d2)] [] (Zw.kS _) ⟨hold_op (.atom _ _ rfl) (.int _ _) (o1 .i64) (.atom _ _ rfl), hold_op (.atom _ _ rfl) (.int _ _) o2 (.atom _ _ rfl), hold_op (.atom _ _ rfl) (.int _ _) (by have := (o3 .i64); rw [k3] at this; exact this) (.int _ _), trivial⟩ Zw.i8 rowsHold_nil Zw.r8 (Zw.n9 r0 h1 b1 (x1 := 0) (by first | assumption | (constructor <;> omega) | trivial) (by constructor <;> omega)) rfl rfl rfl rfl
  ·
    exact Zw.nx Zw.t9 [(.int .i64 d1), (.int .i64 d2)] [] (Zw.kS _) ⟨hold_op (.atom _ _ rfl) (.int _ _) (o1 .i64) (.atom _ _ rfl), hold_op (.atom _ _ rfl) (.int _ _) o2 (.atom _ _ rfl), hold_op (.atom _ _ rfl) (.int _ _) (by have := (o3 .i64); rw [k3] at this; exact this) (.int _ _), trivial⟩ Zw.i9 rowsHold_nil Zw.r9 (Zw.n10 r0 h1 b1 (x1 := 0) (by first | assumption | (constructor <;> omega) | trivial) (by constructor <;> omega)) rfl rfl rfl rfl
  ·
    exact Zw.nx Zw.t10 [(.int .i64 d1), (.int .i64 d2)] [] (Zw.kS _) ⟨hold_op (.atom _ _ rfl) (.int _ _) (o1 .i64) (.atom _ _ rfl), hold_op (.atom _ _ rfl) (.int _ _) o2 (.atom _ _ rfl), hold_op (.atom _ _ rfl) (.int _ _) (by have := (o3 .i64); rw [k3] at this; exact this) (.int _ _), trivial⟩ Zw.i10 rowsHold_nil Zw.r10 (Zw.n11 r0 h1 b1 (x1 := 0) (by first | assumption | (constructor <;> omega) | trivial) (by constructor <;> omega)) rfl rfl rfl rfl
  ·
    exact Zw.nx Zw.t11 [(.int .i64 d1), (.int .i64 d2)] [] (Zw.kS _) ⟨hold_op (.atom _ _ rfl) (.int _ _) (o1 .i64) (.atom _ _ rfl), hold_op (.atom _ _ rfl) (.int _ _) o2 (.atom _ _ rfl), hold_op (.atom _ _ rfl) (.int _ _) (by have := (o3 .i64); rw [k3] at this; exact this) (.int _ _), trivial⟩ Zw.i11 rowsHold_nil Zw.r11 (Zw.n12 r0 h1 b1 (x1 := 0) (by first | assumption | (constructor <;> omega) | trivial) (by constructor <;> omega)) rfl rfl rfl rfl
end Go.Proofs
