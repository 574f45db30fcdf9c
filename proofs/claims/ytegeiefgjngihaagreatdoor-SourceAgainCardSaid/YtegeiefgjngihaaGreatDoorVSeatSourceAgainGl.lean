/- The law: families of nodes over the number of records; hence from its start, for every input. No conditions. -/
import Derived.Test.YtegeiefgjngihaaGreatDoorVSeatSourceAgainR1
import Derived.Test.YtegeiefgjngihaaGreatDoorVSeatSourceAgainR2
import Derived.Test.YtegeiefgjngihaaGreatDoorVSeatSourceAgainR3
import Derived.Test.YtegeiefgjngihaaGreatDoorVSeatSourceAgainR4
set_option linter.all false
namespace Go.Proofs
open Go Go.Vsx Go.RowKit
set_option maxRecDepth 1000000
set_option maxHeartbeats 4000000
set_option linter.unusedVariables false
theorem Zw.nx {W : World} {pt pt' : Pt} {d d' : Nd} {vals : List Value} {roc : List (List Value)} {j hk : Nat} {rl : List (Nat × Nat)} {A : List Value} {vals' : List Value} (t : List SE) (ex : List Value) (rows : List Pl)
    (hok : ∀ sy, okPt (Tryz.Es Tryz.m4 sy) 8 pt = true) (hold : AllHold (nodeMu 8 rows (vals ++ ex)) t)
    (hid : d.sub 8 roc (idl 8 d.objs) (idA hk) (d.st 8 []) = true) (hrow : RowsHold W (nodeMu 8 rows (vals ++ ex)) rows roc)
    (hrun : leafNext (fK (Tryz.Es Tryz.m4 (syOf t)) 100000 100000 pt (d.st 8 roc) j) 8 d' rl A = some pt')
    (h : NdGood Tryz.prog Tryz.f6 8 Tryz.H0 W pt' d' vals') (hlen : hk = vals.length) (hone : (vals ++ ex).all (·.oneCell') = true) (hA : evL (nodeMu 8 rows (vals ++ ex)) A = some vals') (hone' : vals'.all (·.oneCell') = true) : NdGood Tryz.prog Tryz.f6 8 Tryz.H0 W pt d vals :=
  NdGood.next (E := Tryz.Es Tryz.m4 (syOf t)) (extras := ex) (rows := rows) (vals' := vals') (by omega) (Tryz.right Tryz.m4 (syOf t) _ W Tryz.mOk4 (symOk_of rfl hold)) (hok _) hid hlen hone hrow hrun hA hone' h
theorem Zw.fx {W : World} {pt : Pt} {d : Nd} {vals : List Value} {roc : List (List Value)} {j hk : Nat} (t : List SE) (ex : List Value) (rows : List Pl)
    (hok : ∀ sy, okPt (Tryz.Es Tryz.m4 sy) 8 pt = true) (hold : AllHold (nodeMu 8 rows (vals ++ ex)) t)
    (hid : d.sub 8 roc (idl 8 d.objs) (idA hk) (d.st 8 []) = true) (hlen : hk = vals.length) (hone : (vals ++ ex).all (·.oneCell') = true) (hrow : RowsHold W (nodeMu 8 rows (vals ++ ex)) rows roc)
    (hrun : leafFin (Tryz.Es Tryz.m4 (syOf t)) Tryz.f6 (fK (Tryz.Es Tryz.m4 (syOf t)) 100000 100000 pt (d.st 8 roc) j) = true) : NdGood Tryz.prog Tryz.f6 8 Tryz.H0 W pt d vals :=
  NdGood.fin (E := Tryz.Es Tryz.m4 (syOf t)) (extras := ex) (rows := rows) (by omega) (Tryz.right Tryz.m4 (syOf t) _ W Tryz.mOk4 (symOk_of rfl hold)) (hok _) hid hlen hone hrow hrun

theorem Zw.rK (L : Nat) (hL : L < 41) (K : Nat) (h : K < L) : Zw.LK L K = some Zw.p4 := by
  rcases (show L = 0 ∨ L = 1 ∨ L = 2 ∨ L = 3 ∨ L = 4 ∨ L = 5 ∨ L = 6 ∨ L = 7 ∨ L = 8 ∨ L = 9 ∨ L = 10 ∨ L = 11 ∨ L = 12 ∨ L = 13 ∨ L = 14 ∨ L = 15 ∨ L = 16 ∨ L = 17 ∨ L = 18 ∨ L = 19 ∨ L = 20 ∨ L = 21 ∨ L = 22 ∨ L = 23 ∨ L = 24 ∨ L = 25 ∨ L = 26 ∨ L = 27 ∨ L = 28 ∨ L = 29 ∨ L = 30 ∨ L = 31 ∨ L = 32 ∨ L = 33 ∨ L = 34 ∨ L = 35 ∨ L = 36 ∨ L = 37 ∨ L = 38 ∨ L = 39 ∨ L = 40 by omega) with h2 | h2 | h2 | h2 | h2 | h2 | h2 | h2 | h2 | h2 | h2 | h2 | h2 | h2 | h2 | h2 | h2 | h2 | h2 | h2 | h2 | h2 | h2 | h2 | h2 | h2 | h2 | h2 | h2 | h2 | h2 | h2 | h2 | h2 | h2 | h2 | h2 | h2 | h2 | h2 | h2
  · omega
  · subst h2; exact Zw.rK1 K h
  · subst h2; exact Zw.rK2 K h
  · subst h2; exact Zw.rK3 K h
  · subst h2; exact Zw.rK4 K h
  · subst h2; exact Zw.rK5 K h
  · subst h2; exact Zw.rK6 K h
  · subst h2; exact Zw.rK7 K h
  · subst h2; exact Zw.rK8 K h
  · subst h2; exact Zw.rK9 K h
  · subst h2; exact Zw.rK10 K h
  · subst h2; exact Zw.rK11 K h
  · subst h2; exact Zw.rK12 K h
  · subst h2; exact Zw.rK13 K h
  · subst h2; exact Zw.rK14 K h
  · subst h2; exact Zw.rK15 K h
  · subst h2; exact Zw.rK16 K h
  · subst h2; exact Zw.rK17 K h
  · subst h2; exact Zw.rK18 K h
  · subst h2; exact Zw.rK19 K h
  · subst h2; exact Zw.rK20 K h
  · subst h2; exact Zw.rK21 K h
  · subst h2; exact Zw.rK22 K h
  · subst h2; exact Zw.rK23 K h
  · subst h2; exact Zw.rK24 K h
  · subst h2; exact Zw.rK25 K h
  · subst h2; exact Zw.rK26 K h
  · subst h2; exact Zw.rK27 K h
  · subst h2; exact Zw.rK28 K h
  · subst h2; exact Zw.rK29 K h
  · subst h2; exact Zw.rK30 K h
  · subst h2; exact Zw.rK31 K h
  · subst h2; exact Zw.rK32 K h
  · subst h2; exact Zw.rK33 K h
  · subst h2; exact Zw.rK34 K h
  · subst h2; exact Zw.rK35 K h
  · subst h2; exact Zw.rK36 K h
  · subst h2; exact Zw.rK37 K h
  · subst h2; exact Zw.rK38 K h
  · subst h2; exact Zw.rK39 K h
  · subst h2; exact Zw.rK40 K h

/-- The records' cells. -/
def Zw.rc (kk tt vv : Nat → Int) : Nat → List Value
  | 0 => []
  | n + 1 => Zw.rc kk tt vv n ++ [.int .i64 (kk n), .int .i64 (tt n), .int .i64 (vv n)]
theorem Zw.rc_len (kk tt vv : Nat → Int) : ∀ n, (Zw.rc kk tt vv n).length = 3 * n
  | 0 => rfl
  | n + 1 => by simp only [Zw.rc, List.length_append, Zw.rc_len kk tt vv n, List.length_cons, List.length_nil]; omega
theorem Zw.rc_get (kk tt vv : Nat → Int) : ∀ n j, j < n → (Zw.rc kk tt vv n)[3 * j]? = some (.int .i64 (kk j)) ∧ (Zw.rc kk tt vv n)[3 * j + 1]? = some (.int .i64 (tt j)) ∧ (Zw.rc kk tt vv n)[3 * j + 2]? = some (.int .i64 (vv j))
  | 0, j, h => absurd h (Nat.not_lt_zero _)
  | n + 1, j, h => by
    have hl := Zw.rc_len kk tt vv n
    rcases Nat.lt_or_ge j n with h2 | h2
    · obtain ⟨g1, g2, g3⟩ := Zw.rc_get kk tt vv n j h2
      simp only [Zw.rc]
      rw [List.getElem?_append_left (by omega), List.getElem?_append_left (by omega), List.getElem?_append_left (by omega)]
      exact ⟨g1, g2, g3⟩
    · obtain rfl : j = n := by omega
      simp only [Zw.rc]
      rw [List.getElem?_append_right (by omega), List.getElem?_append_right (by omega), List.getElem?_append_right (by omega), hl]
      have e0 : 3 * j - 3 * j = 0 := by omega
      have e1 : 3 * j + 1 - 3 * j = 1 := by omega
      have e2 : 3 * j + 2 - 3 * j = 2 := by omega
      rw [e0, e1, e2]
      exact ⟨rfl, rfl, rfl⟩
theorem Zw.rc_one (kk tt vv : Nat → Int) : ∀ n, (Zw.rc kk tt vv n).all (·.oneCell') = true
  | 0 => rfl
  | n + 1 => by simp only [Zw.rc, List.all_append, Zw.rc_one kk tt vv n]; rfl
def Zw.up (f : Nat → Int) (n : Nat) (a : Int) (j : Nat) : Int := if j = n then a else f j
theorem Zw.rc_same {kk tt vv kk' tt' vv' : Nat → Int} : ∀ n, (∀ j, j < n → kk j = kk' j ∧ tt j = tt' j ∧ vv j = vv' j) → Zw.rc kk tt vv n = Zw.rc kk' tt' vv' n
  | 0, _ => rfl
  | n + 1, h => by
    have hn := h n (Nat.lt_succ_self _)
    simp only [Zw.rc, hn.1, hn.2.1, hn.2.2, Zw.rc_same n (fun j hj => h j (by omega))]
theorem Zw.rc_up (kk tt vv : Nat → Int) (n : Nat) (a b c : Int) : Zw.rc (Zw.up kk n a) (Zw.up tt n b) (Zw.up vv n c) (n + 1) = Zw.rc kk tt vv n ++ [.int .i64 a, .int .i64 b, .int .i64 c] := by
  simp only [Zw.rc]
  have hs : Zw.rc (Zw.up kk n a) (Zw.up tt n b) (Zw.up vv n c) n = Zw.rc kk tt vv n := Zw.rc_same n fun j hj => by
    have hn : ¬ j = n := by omega
    simp [Zw.up, hn]
  rw [hs]
  simp [Zw.up]
theorem Zw.at_ {ng : Nat} {rows : List Pl} {vals : List Value} {v k : Nat} (h : v = 1000 + k) : (nodeMu ng rows vals).at_ v = vals[k]? := by
  subst h
  show atomsOf vals (1000 + k) = _
  unfold atomsOf
  rw [if_pos (by omega)]
  congr 1; omega
theorem Zw.atX {ng : Nat} {rows : List Pl} {vals ex : List Value} {v t : Nat} (h : v = 1000 + vals.length + t) : (nodeMu ng rows (vals ++ ex)).at_ v = ex[t]? := by
  rw [Zw.at_ (k := vals.length + t) (by omega), List.getElem?_append_right (by omega)]
  congr 1; omega
theorem Zw.atC {ng : Nat} {rows : List Pl} {p ex : List Value} {kk tt vv : Nat → Int} {L v i : Nat} (hv : v = 1000 + p.length + i) (hi : i < 3 * L) : (nodeMu ng rows ((p ++ Zw.rc kk tt vv L) ++ ex)).at_ v = (Zw.rc kk tt vv L)[i]? := by
  have hl := Zw.rc_len kk tt vv L
  rw [Zw.at_ (k := p.length + i) (by omega), List.getElem?_append_left (by simp only [List.length_append]; omega), List.getElem?_append_right (by omega)]
  congr 1; omega
theorem Zw.ev_app {m : Mu} {vb : List Value} : ∀ {a va b : List Value}, evL m a = some va → evL m b = some vb → evL m (a ++ b) = some (va ++ vb)
  | [], va, b, h1, h2 => by cases h1; exact h2
  | u :: a, va, b, h1, h2 => by
    simp only [evL] at h1
    cases hu : evM m u with
    | none => rw [hu] at h1; cases h1
    | some x =>
      rw [hu] at h1
      cases hr : evL m a with
      | none => rw [hr] at h1; cases h1
      | some r =>
        rw [hr] at h1; cases h1
        show evL m (u :: (a ++ b)) = _
        simp only [evL, hu, Zw.ev_app hr h2]
        rfl
theorem Zw.ev_chR {m : Mu} : ∀ (l : List Value) (s : Nat), (∀ i x, l[i]? = some x → m.at_ (s + i) = some x) → evL m (Zw.chR s l.length) = some l
  | [], s, _ => rfl
  | x :: l, s, h => by
    have h0 := h 0 x rfl
    have ih := Zw.ev_chR l (s + 1) fun i y hy => by have := h (i + 1) y hy; rw [show s + 1 + i = s + (i + 1) by omega]; exact this
    have he : Zw.chR s (x :: l).length = ch s :: Zw.chR (s + 1) l.length := by
      unfold Zw.chR
      simp only [List.length_cons, List.range'_succ, List.map_cons]
    rw [he]
    simp only [evL, evM]
    rw [show m.at_ s = some x from h0, ih]
theorem Zw.ah_app {m : Mu} {b : List SE} : ∀ {a : List SE}, AllHold m a → AllHold m b → AllHold m (a ++ b)
  | [], _, h2 => h2
  | _ :: _, h1, h2 => ⟨h1.1, Zw.ah_app h1.2 h2⟩
theorem Zw.hG {m : Mu} {a : Nat} {x c : Int} (h : m.at_ a = some (.int .i64 x)) (q : c ≤ x) : SymHolds m (.bin .geq) (ch a) (.int .i64 c) (.bool true) := hold_bool (.atom _ _ h) (.int _ _) (op_geq_t q)
theorem Zw.hGf {m : Mu} {a : Nat} {x c : Int} (h : m.at_ a = some (.int .i64 x)) (q : x < c) : SymHolds m (.bin .geq) (ch a) (.int .i64 c) (.bool false) := hold_bool (.atom _ _ h) (.int _ _) (op_geq_f q)
theorem Zw.hL {m : Mu} {a : Nat} {x c : Int} (h : m.at_ a = some (.int .i64 x)) (q : x < c) : SymHolds m (.bin .lss) (ch a) (.int .i64 c) (.bool true) := hold_bool (.atom _ _ h) (.int _ _) (op_lss_t q)
theorem Zw.hLf {m : Mu} {a : Nat} {x c : Int} (h : m.at_ a = some (.int .i64 x)) (q : c ≤ x) : SymHolds m (.bin .lss) (ch a) (.int .i64 c) (.bool false) := hold_bool (.atom _ _ h) (.int _ _) (op_lss_f q)
theorem Zw.hE {m : Mu} {a : Nat} {x : Int} (h : m.at_ a = some (.int .i64 x)) : SymHolds m (.bin .eql) (ch a) (ch a) (.bool true) := hold_bool (.atom _ _ h) (.atom _ _ h) (op_eql_t rfl)

theorem Zw.nB {W : World} {kk tt vv : Nat → Int} {L : Nat} (hL : L < 41) : ∀ (k i : Nat), i ≤ L → L - i < k →
    NdGood Tryz.prog Tryz.f6 8 Tryz.H0 W Zw.p4 (Zw.dB L) ([.int .i64 (i : Int)] ++ Zw.rc kk tt vv L)
  | 0, i, _, h => absurd h (Nat.not_lt_zero _)
  | k + 1, i, hi, hk => by
    have hl := Zw.rc_len kk tt vv L
    have hlen : 1 + 3 * L = ([Value.int .i64 (i : Int)] ++ Zw.rc kk tt vv L).length := by simp only [List.length_append, List.length_cons, List.length_nil]; omega
    have hid := Zw.allU_get Zw.iB L hL
    rcases Nat.lt_or_ge i L with h | h
    · obtain ⟨d1, e1, g1, o1⟩ := ex_add (i : Int) (1 : Int)
      obtain rfl : d1 = ((i + 1 : Nat) : Int) := by omega
      obtain ⟨d2, e2, g2, o2⟩ := ex_sub ((i + 1 : Nat) : Int) (1 : Int)
      obtain rfl : d2 = (i : Int) := by omega
      generalize hm : nodeMu 8 [] (([Value.int .i64 (i : Int)] ++ Zw.rc kk tt vv L) ++ [.int .i64 ((i + 1 : Nat) : Int), .int .i64 (i : Int)]) = m
      have a0 : m.at_ 1000 = some (.int .i64 (i : Int)) := by rw [← hm]; rfl
      have a1 : m.at_ (1001 + 3 * L) = some (.int .i64 ((i + 1 : Nat) : Int)) := by rw [← hm, Zw.atX (t := 0) (by rw [← hlen]; omega)]; rfl
      have a2 : m.at_ (1001 + 3 * L + 1) = some (.int .i64 (i : Int)) := by rw [← hm, Zw.atX (t := 1) (by rw [← hlen]; omega)]; rfl
      obtain ⟨c0, c1, c2⟩ := Zw.rc_get kk tt vv L i h
      have b0 : m.at_ (1001 + 3 * i) = some (.int .i64 (kk i)) := by rw [← hm, Zw.atC (i := 3 * i) (by simp only [List.length_cons, List.length_nil] <;> omega) (by omega)]; exact c0
      have b1 : m.at_ (1001 + 3 * i + 1) = some (.int .i64 (tt i)) := by rw [← hm, Zw.atC (i := 3 * i + 1) (by simp only [List.length_cons, List.length_nil] <;> omega) (by omega)]; exact c1
      have b2 : m.at_ (1001 + 3 * i + 2) = some (.int .i64 (vv i)) := by rw [← hm, Zw.atC (i := 3 * i + 2) (by simp only [List.length_cons, List.length_nil] <;> omega) (by omega)]; exact c2
      have hold : AllHold m (Zw.tK L i) :=
        ⟨Zw.hL a0 (show (i : Int) < Int.ofNat L by simp only [Int.ofNat_eq_natCast]; omega), Zw.hGf a0 (show (i : Int) < Int.ofNat L by simp only [Int.ofNat_eq_natCast]; omega), hold_op (.atom _ _ a0) (.int _ _) o1 (.atom _ _ a1), hold_op (.atom _ _ a1) (.int _ _) o2 (.atom _ _ a2),
          hold_fix (.atom _ _ a2) rfl, hold_fix (.atom _ _ a0) rfl, Zw.hE b0, Zw.hE b1, Zw.hE b2, hold_bool (.atom _ _ a1) (.atom _ _ a1) (op_neq_f rfl), trivial⟩
      rw [← hm] at hold
      refine Zw.nx (Zw.tK L i) [.int .i64 ((i + 1 : Nat) : Int), .int .i64 (i : Int)] [] (fun sy => Zw.k4 Tryz.m4 sy) hold hid rowsHold_nil (Zw.rK L hL i h) (Zw.nB (kk := kk) (tt := tt) (vv := vv) hL k (i + 1) h (by omega)) hlen ?_ ?_ ?_
      · simp only [List.all_append, Zw.rc_one kk tt vv L]; rfl
      · rw [hm]
        refine Zw.ev_app (va := [.int .i64 ((i + 1 : Nat) : Int)]) (by simp only [evL, evM, a1]) ?_
        have := Zw.ev_chR (m := m) (Zw.rc kk tt vv L) 1001 fun j x hx => by
          have hj : j < 3 * L := by have := (List.getElem?_eq_some_iff.1 hx).1; omega
          rw [← hm, Zw.atC (i := j) (by simp only [List.length_cons, List.length_nil]) hj]; exact hx
        rw [hl] at this
        exact this
      · simp only [List.all_append, Zw.rc_one kk tt vv L]; rfl
    · obtain rfl : i = L := by omega
      have a0 : (nodeMu 8 [] (([Value.int .i64 (i : Int)] ++ Zw.rc kk tt vv i) ++ [])).at_ 1000 = some (.int .i64 (i : Int)) := rfl
      refine Zw.fx (Zw.tF i) [] [] (fun sy => Zw.k4 Tryz.m4 sy) ⟨Zw.hLf a0 (by simp only [Int.ofNat_eq_natCast]; omega), hold_bool (.atom _ _ a0) (.int _ _) (op_eql_t rfl), trivial⟩ hid hlen ?_ rowsHold_nil (Zw.allU_get Zw.rF i hL)
      simp only [List.all_append, Zw.rc_one kk tt vv i]; rfl

theorem Zw.e4_hold {m : Mu} {kk tt vv : Nat → Int} {L : Nat} (hk : ∀ j, j < L → 0 ≤ kk j ∧ kk j < 8) (ht : ∀ j, j < L → 0 ≤ tt j ∧ tt j < 4)
    (h : ∀ j, j < L → m.at_ (1003 + 3 * j) = some (.int .i64 (kk j)) ∧ m.at_ (1003 + 3 * j + 1) = some (.int .i64 (tt j)) ∧ m.at_ (1003 + 3 * j + 2) = some (.int .i64 (vv j))) : ∀ n, n ≤ L → AllHold m (Zw.e4 n)
  | 0, _ => trivial
  | n + 1, hn => by
    obtain ⟨h1, h2, h3⟩ := h n hn
    exact ⟨Zw.hG h1 (hk n hn).1, Zw.hL h1 (hk n hn).2, Zw.hG h2 (ht n hn).1, Zw.hL h2 (ht n hn).2, Zw.hE h1, Zw.hE h2, Zw.hE h3, Zw.e4_hold hk ht h n (by omega)⟩

theorem Zw.nE {W : World} {a0 : Option Addr} {m0 c0 : Nat} {f0q0 : Nat → Int} {f0q1 : Nat → Int} {f0q2 : Nat → Int} {n1 : Int} (h0 : SlcOk W a0 m0 c0 3 (fun i => [.int .i64 (f0q0 i), .int .i64 (f0q1 i), .int .i64 (f0q2 i)])) (b0 : (m0 : Int) < 9223372036854775808) (r0q0 : ∀ i, R64 (f0q0 i)) (r0q1 : ∀ i, R64 (f0q1 i)) (r0q2 : ∀ i, R64 (f0q2 i)) (r1 : R64 n1) {kk tt vv : Nat → Int} {L : Nat} (hL : L < 41) (hk : ∀ j, j < L → 0 ≤ kk j ∧ kk j < 8) (ht : ∀ j, j < L → 0 ≤ tt j ∧ tt j < 4) {i : Int} (c : Bool) (hc : intOpA .lss .i64 i (m0 : Int) = some (.bool c)) (hr : Zw.LE L c = some Zw.p4) :
    NdGood Tryz.prog Tryz.f6 8 Tryz.H0 W Zw.p0 (Zw.dA L) ([.slice a0 m0 c0, .int .i64 n1, .int .i64 i] ++ Zw.rc kk tt vv L) := by
  have hl := Zw.rc_len kk tt vv L
  have ⟨rl1, rh1⟩ := r1
  have hlen : 3 + 3 * L = ([Value.slice a0 m0 c0, .int .i64 n1, .int .i64 i] ++ Zw.rc kk tt vv L).length := by simp only [List.length_append, List.length_cons, List.length_nil]; omega
  obtain ⟨d1, ⟨y1, e1, z1, u1, w1⟩, g1, o1⟩ := ex_rem n1 ((L + 1 : Nat) : Int) (by omega) (by omega)
  obtain ⟨d2, e2, g2, o2⟩ := ex_add d1 (L : Int)
  obtain ⟨d3, e3, g3, o3⟩ := ex_add d2 (1 : Int)
  obtain ⟨d4, ⟨y4, e4, z4, u4, w4⟩, g4, o4⟩ := ex_rem d3 ((L + 1 : Nat) : Int) (by omega) (by omega)
  have f2 : d2 = d1 + L := by omega
  have f3 : d3 = d1 + L + 1 := by omega
  have f0 : 0 ≤ d3 := by omega
  have f4 : 0 ≤ d4 := by rw [e4 f0]; exact Int.emod_nonneg _ (by omega)
  obtain ⟨K, rfl⟩ : ∃ K : Nat, d4 = (K : Int) := ⟨d4.toNat, by omega⟩
  generalize hm : nodeMu 8 [] (([Value.slice a0 m0 c0, .int .i64 n1, .int .i64 i] ++ Zw.rc kk tt vv L) ++ [.int .i64 (m0 : Int), .int .i64 d1, .int .i64 d2, .int .i64 d3, .int .i64 (K : Int)]) = m
  have a0' : m.at_ 1000 = some (.slice a0 m0 c0) := by rw [← hm]; rfl
  have a1' : m.at_ 1001 = some (.int .i64 n1) := by rw [← hm]; rfl
  have a2' : m.at_ 1002 = some (.int .i64 i) := by rw [← hm]; rfl
  have x0 : m.at_ (1003 + 3 * L) = some (.int .i64 (m0 : Int)) := by rw [← hm, Zw.atX (t := 0) (by rw [← hlen]; omega)]; rfl
  have x1 : m.at_ (1003 + 3 * L + 1) = some (.int .i64 d1) := by rw [← hm, Zw.atX (t := 1) (by rw [← hlen]; omega)]; rfl
  have x2 : m.at_ (1003 + 3 * L + 2) = some (.int .i64 d2) := by rw [← hm, Zw.atX (t := 2) (by rw [← hlen]; omega)]; rfl
  have x3 : m.at_ (1003 + 3 * L + 3) = some (.int .i64 d3) := by rw [← hm, Zw.atX (t := 3) (by rw [← hlen]; omega)]; rfl
  have x4 : m.at_ (1003 + 3 * L + 4) = some (.int .i64 (K : Int)) := by rw [← hm, Zw.atX (t := 4) (by rw [← hlen]; omega)]; rfl
  have cell : ∀ j x, (Zw.rc kk tt vv L)[j]? = some x → m.at_ (1003 + j) = some x := fun j x hx => by
    have hj : j < 3 * L := by have := (List.getElem?_eq_some_iff.1 hx).1; omega
    rw [← hm, Zw.atC (i := j) (by simp only [List.length_cons, List.length_nil]) hj]; exact hx
  have hcs : AllHold m (Zw.e4 L) := Zw.e4_hold hk ht (fun j hj => by
    obtain ⟨q0, q1, q2⟩ := Zw.rc_get kk tt vv L j hj
    exact ⟨cell _ _ q0, cell _ _ q1, cell _ _ q2⟩) L (Nat.le_refl _)
  have hold : AllHold m (Zw.tE L c) := by
    refine ⟨hold_len (.atom _ _ a0') (.atom _ _ x0), hold_bool (.atom _ _ a2') (.atom _ _ x0) hc, Zw.ah_app (a := Zw.tail L (1003 + 3 * L)) ?_ hcs⟩
    exact ⟨hold_op (.atom _ _ a1') (.int _ _) (o1 .i64) (.atom _ _ x1), hold_op (.atom _ _ x1) (.int _ _) o2 (.atom _ _ x2), hold_op (.atom _ _ x2) (.int _ _) o3 (.atom _ _ x3), hold_op (.atom _ _ x3) (.int _ _) (o4 .i64) (.atom _ _ x4),
      Zw.hLf x4 f4, hold_bool (.atom _ _ x4) (.int _ _) (op_gtr_f (show (K : Int) ≤ Int.ofNat L by simp only [Int.ofNat_eq_natCast]; omega)), trivial⟩
  rw [← hm] at hold
  refine Zw.nx (Zw.tE L c) [.int .i64 (m0 : Int), .int .i64 d1, .int .i64 d2, .int .i64 d3, .int .i64 (K : Int)] [] (fun sy => Zw.k0 Tryz.m4 sy) hold (Zw.allU_get Zw.iE L hL) rowsHold_nil hr (Zw.nB (kk := kk) (tt := tt) (vv := vv) hL (L - K + 1) K (by omega) (by omega)) hlen ?_ ?_ ?_
  · simp only [List.all_append, Zw.rc_one kk tt vv L]; rfl
  · rw [hm]
    refine Zw.ev_app (va := [.int .i64 (K : Int)]) (by simp only [evL, evM, x4]) ?_
    have := Zw.ev_chR (m := m) (Zw.rc kk tt vv L) 1003 cell
    rw [hl] at this
    exact this
  · simp only [List.all_append, Zw.rc_one kk tt vv L]; rfl

theorem Zw.nA {W : World} {a0 : Option Addr} {m0 c0 : Nat} {f0q0 : Nat → Int} {f0q1 : Nat → Int} {f0q2 : Nat → Int} {n1 : Int} (h0 : SlcOk W a0 m0 c0 3 (fun i => [.int .i64 (f0q0 i), .int .i64 (f0q1 i), .int .i64 (f0q2 i)])) (b0 : (m0 : Int) < 9223372036854775808) (r0q0 : ∀ i, R64 (f0q0 i)) (r0q1 : ∀ i, R64 (f0q1 i)) (r0q2 : ∀ i, R64 (f0q2 i)) (r1 : R64 n1) : ∀ (k : Nat) {kk tt vv : Nat → Int} {L : Nat} (_ : L < 41) (_ : ∀ j, j < L → 0 ≤ kk j ∧ kk j < 8) (_ : ∀ j, j < L → 0 ≤ tt j ∧ tt j < 4) {i : Int} (_ : 0 ≤ i ∧ i ≤ 9223372036854775807) (_ : 9223372036854775807 - i < k),
    NdGood Tryz.prog Tryz.f6 8 Tryz.H0 W Zw.p0 (Zw.dA L) ([.slice a0 m0 c0, .int .i64 n1, .int .i64 i] ++ Zw.rc kk tt vv L)
  | 0, _, _, _, _, _, _, _, _, hi, h => by exfalso; omega
  | k + 1, kk, tt, vv, L, hL, hk, ht, i, hi, h => by
    have hl := Zw.rc_len kk tt vv L
    have hlen : 3 + 3 * L = ([Value.slice a0 m0 c0, .int .i64 n1, .int .i64 i] ++ Zw.rc kk tt vv L).length := by simp only [List.length_append, List.length_cons, List.length_nil]; omega
    by_cases q1 : i < (m0 : Int)
    case neg => exact Zw.nE h0 b0 r0q0 r0q1 r0q2 r1 hL hk ht false (op_lss_f (Int.not_lt.1 q1)) (Zw.rE L hL)
    case pos =>
    rcases Nat.lt_or_ge L 40 with h40 | h40
    case inr =>
      obtain rfl : L = 40 := by omega
      exact Zw.nE h0 b0 r0q0 r0q1 r0q2 r1 hL hk ht true (op_lss_t q1) Zw.rEt
    case inl =>
    have l2 : i.toNat < m0 := by omega
    obtain ⟨p2, v2⟩ := h0.elem l2
    obtain ⟨d, e, g, o⟩ := ex_add i (1 : Int)
    obtain rfl : d = i + 1 := by omega
    generalize hm : nodeMu 8 [p2] (([Value.slice a0 m0 c0, .int .i64 n1, .int .i64 i] ++ Zw.rc kk tt vv L) ++ [.int .i64 (f0q0 i.toNat), .int .i64 (f0q1 i.toNat), .int .i64 (f0q2 i.toNat), .int .i64 (m0 : Int), .int .i64 (i + 1)]) = m
    have a0' : m.at_ 1000 = some (.slice a0 m0 c0) := by rw [← hm]; rfl
    have a1' : m.at_ 1001 = some (.int .i64 n1) := by rw [← hm]; rfl
    have a2' : m.at_ 1002 = some (.int .i64 i) := by rw [← hm]; rfl
    have x0 : m.at_ (1003 + 3 * L) = some (.int .i64 (f0q0 i.toNat)) := by rw [← hm, Zw.atX (t := 0) (by rw [← hlen]; omega)]; rfl
    have x1 : m.at_ (1003 + 3 * L + 1) = some (.int .i64 (f0q1 i.toNat)) := by rw [← hm, Zw.atX (t := 1) (by rw [← hlen]; omega)]; rfl
    have x2 : m.at_ (1003 + 3 * L + 2) = some (.int .i64 (f0q2 i.toNat)) := by rw [← hm, Zw.atX (t := 2) (by rw [← hlen]; omega)]; rfl
    have x3 : m.at_ (1003 + 3 * L + 3) = some (.int .i64 (m0 : Int)) := by rw [← hm, Zw.atX (t := 3) (by rw [← hlen]; omega)]; rfl
    have x4 : m.at_ (1003 + 3 * L + 4) = some (.int .i64 (i + 1)) := by rw [← hm, Zw.atX (t := 4) (by rw [← hlen]; omega)]; rfl
    have hp : m.pl 8 = some p2 := by rw [← hm]; rfl
    have cell : ∀ j x, (Zw.rc kk tt vv L ++ [Value.int .i64 (f0q0 i.toNat), Value.int .i64 (f0q1 i.toNat), Value.int .i64 (f0q2 i.toNat)])[j]? = some x → m.at_ (1003 + j) = some x := fun j x hx => by
      rcases Nat.lt_or_ge j (3 * L) with hj | hj
      · rw [List.getElem?_append_left (by omega)] at hx
        rw [← hm, Zw.atC (i := j) (by simp only [List.length_cons, List.length_nil]) hj]; exact hx
      · rw [List.getElem?_append_right (by omega), hl] at hx
        rcases (show j = 3 * L ∨ j = 3 * L + 1 ∨ j = 3 * L + 2 by have := (List.getElem?_eq_some_iff.1 hx).1; simp only [List.length_cons, List.length_nil] at this; omega) with rfl | rfl | rfl
        · rw [show 3 * L - 3 * L = 0 by omega] at hx; cases hx; exact x0
        · rw [show 3 * L + 1 - 3 * L = 1 by omega] at hx; cases hx; exact x1
        · rw [show 3 * L + 2 - 3 * L = 2 by omega] at hx; cases hx; exact x2
    have hpre : AllHold m (Zw.pre (1003 + 3 * L)) :=
      ⟨hold_len (.atom _ _ a0') (.atom _ _ x3), hold_bool (.atom _ _ a2') (.atom _ _ x3) (op_lss_t q1), hold_idx v2 l2 (.atom _ _ a0') (.atom _ _ a2') (by omega) hp, hold_op (.atom _ _ a2') (.int _ _) o (.atom _ _ x4), trivial⟩
    have hrow : RowsHold W m [p2] (Zw.roA L) := rowsHold_cons (Elem.row v2 (VL.cons (.atom _ _ x0) (VL.cons (.atom _ _ x1) (VL.cons (.atom _ _ x2) VL.nil)))) rowsHold_nil
    have hone : (([Value.slice a0 m0 c0, .int .i64 n1, .int .i64 i] ++ Zw.rc kk tt vv L) ++ [Value.int .i64 (f0q0 i.toNat), Value.int .i64 (f0q1 i.toNat), Value.int .i64 (f0q2 i.toNat), Value.int .i64 (m0 : Int), Value.int .i64 (i + 1)]).all (·.oneCell') = true := by
      simp only [List.all_append, Zw.rc_one kk tt vv L]; rfl
    have hid := Zw.allU_get Zw.iA L hL
    have rej : ∀ n, AllHold m (Zw.rj n (1003 + 3 * L)) → Zw.LR n L = some Zw.p0 → NdGood Tryz.prog Tryz.f6 8 Tryz.H0 W Zw.p0 (Zw.dA L) ([.slice a0 m0 c0, .int .i64 n1, .int .i64 i] ++ Zw.rc kk tt vv L) := fun n hj hr => by
      have hold : AllHold m (Zw.tR n (1003 + 3 * L)) := Zw.ah_app hpre hj
      rw [← hm] at hold hrow
      refine Zw.nx (Zw.tR n (1003 + 3 * L)) _ [p2] (fun sy => Zw.k0 Tryz.m4 sy) hold hid hrow hr (Zw.nA h0 b0 r0q0 r0q1 r0q2 r1 k (kk := kk) (tt := tt) (vv := vv) hL hk ht (i := i + 1) (by omega) (by omega)) hlen hone ?_ ?_
      · rw [hm]
        refine Zw.ev_app (va := [.slice a0 m0 c0, .int .i64 n1, .int .i64 (i + 1)]) (by simp only [evL, evM, a0', a1', x4]) ?_
        have := Zw.ev_chR (m := m) (Zw.rc kk tt vv L) 1003 fun j x hx => cell j x (by rw [List.getElem?_append_left (by have := (List.getElem?_eq_some_iff.1 hx).1; omega)]; exact hx)
        rw [hl] at this
        exact this
      · simp only [List.all_append, Zw.rc_one kk tt vv L]; rfl
    by_cases q3 : (0 : Int) ≤ f0q0 i.toNat
    case neg => exact rej 0 ⟨Zw.hGf x0 (Int.not_le.1 q3), trivial⟩ (Zw.rR0 L h40)
    by_cases q4 : f0q0 i.toNat < (8 : Int)
    case neg => exact rej 1 ⟨Zw.hG x0 q3, Zw.hLf x0 (Int.not_lt.1 q4), trivial⟩ (Zw.rR1 L h40)
    by_cases q5 : (0 : Int) ≤ f0q1 i.toNat
    case neg => exact rej 2 ⟨Zw.hG x0 q3, Zw.hL x0 q4, Zw.hGf x1 (Int.not_le.1 q5), trivial⟩ (Zw.rR2 L h40)
    by_cases q6 : f0q1 i.toNat < (4 : Int)
    case neg => exact rej 3 ⟨Zw.hG x0 q3, Zw.hL x0 q4, Zw.hG x1 q5, Zw.hLf x1 (Int.not_lt.1 q6), trivial⟩ (Zw.rR3 L h40)
    have hold : AllHold m (Zw.tR 4 (1003 + 3 * L)) := Zw.ah_app hpre ⟨Zw.hG x0 q3, Zw.hL x0 q4, Zw.hG x1 q5, Zw.hL x1 q6, trivial⟩
    rw [← hm] at hold hrow
    have next := Zw.nA h0 b0 r0q0 r0q1 r0q2 r1 k (kk := Zw.up kk L (f0q0 i.toNat)) (tt := Zw.up tt L (f0q1 i.toNat)) (vv := Zw.up vv L (f0q2 i.toNat)) (L := L + 1) (by omega)
      (fun j hj => by unfold Zw.up; split; exact ⟨q3, q4⟩; exact hk j (by omega)) (fun j hj => by unfold Zw.up; split; exact ⟨q5, q6⟩; exact ht j (by omega)) (i := i + 1) (by omega) (by omega)
    rw [Zw.rc_up] at next
    refine Zw.nx (Zw.tR 4 (1003 + 3 * L)) _ [p2] (fun sy => Zw.k0 Tryz.m4 sy) hold hid hrow (Zw.rA L h40) next hlen hone ?_ ?_
    · rw [hm]
      refine Zw.ev_app (va := [.slice a0 m0 c0, .int .i64 n1, .int .i64 (i + 1)]) (by simp only [evL, evM, a0', a1', x4]) ?_
      have := Zw.ev_chR (m := m) _ 1003 cell
      rw [show (Zw.rc kk tt vv L ++ [Value.int .i64 (f0q0 i.toNat), .int .i64 (f0q1 i.toNat), .int .i64 (f0q2 i.toNat)]).length = 3 * L + 3 by simp only [List.length_append, hl, List.length_cons, List.length_nil]] at this
      exact this
    · simp only [List.all_append, Zw.rc_one kk tt vv L]; rfl

theorem Zw.n0 {W : World} {a0 : Option Addr} {m0 c0 : Nat} {f0q0 : Nat → Int} {f0q1 : Nat → Int} {f0q2 : Nat → Int} {n1 : Int} (h0 : SlcOk W a0 m0 c0 3 (fun i => [.int .i64 (f0q0 i), .int .i64 (f0q1 i), .int .i64 (f0q2 i)])) (b0 : (m0 : Int) < 9223372036854775808) (r0q0 : ∀ i, R64 (f0q0 i)) (r0q1 : ∀ i, R64 (f0q1 i)) (r0q2 : ∀ i, R64 (f0q2 i)) (r1 : R64 n1) : NdGood Tryz.prog Tryz.f6 8 Tryz.H0 W Zw.pS Zw.d0 [(.slice a0 m0 c0), (.int .i64 n1)] :=
  Zw.nx [] [] [] (fun sy => Zw.kS Tryz.m4 sy) trivial Zw.i0 rowsHold_nil Zw.r0 (Zw.nA h0 b0 r0q0 r0q1 r0q2 r1 9223372036854775808 (kk := fun _ => 0) (tt := fun _ => 0) (vv := fun _ => 0) (L := 0) (by omega) (fun j hj => by omega) (fun j hj => by omega) (i := 0) (by omega) (by omega)) rfl rfl rfl rfl
end Go.Proofs
