/- The law: families of nodes over how many outs were added; hence from its start, for every input. No conditions. -/
import Derived.Test.YtjmfbhlanjhnfaaGreatDoorVSeatSinkUndoR1
set_option linter.all false
namespace Go.Proofs
open Go Go.Vsx Go.RowKit
set_option maxRecDepth 1000000
set_option maxHeartbeats 4000000
set_option linter.unusedVariables false
theorem Zw.nx {W : World} {pt pt' : Pt} {d d' : Nd} {vals : List Value} {roc : List (List Value)} {j hk : Nat} {rl : List (Nat × Nat)} {A : List Value} {vals' : List Value} (t : List SE) (ex : List Value) (rows : List Pl)
    (hok : ∀ sy, okPt (Tryz.Es Tryz.m4 sy) 8 pt = true) (hold : AllHold (nodeMu 8 rows (vals ++ ex)) t)
    (hid : d.sub 8 roc (idl 8 d.objs) (idA hk) (d.st 8 []) = true) (hrow : RowsHold W (nodeMu 8 rows (vals ++ ex)) rows roc)
    (hrun : leafNext (fK (Tryz.Es Tryz.m4 (syOf t)) 100000 100000 pt (d.st 8 roc) j) 8 d' rl A = some pt')
    (h : NdGood Tryz.prog Tryz.f5 8 Tryz.H0 W pt' d' vals') (hlen : hk = vals.length) (hone : (vals ++ ex).all (·.oneCell') = true) (hA : evL (nodeMu 8 rows (vals ++ ex)) A = some vals') (hone' : vals'.all (·.oneCell') = true) : NdGood Tryz.prog Tryz.f5 8 Tryz.H0 W pt d vals :=
  NdGood.next (E := Tryz.Es Tryz.m4 (syOf t)) (extras := ex) (rows := rows) (vals' := vals') (by omega) (Tryz.right Tryz.m4 (syOf t) _ W Tryz.mOk4 (symOk_of rfl hold)) (hok _) hid hlen hone hrow hrun hA hone' h
theorem Zw.fx {W : World} {pt : Pt} {d : Nd} {vals : List Value} {roc : List (List Value)} {j hk : Nat} (t : List SE) (ex : List Value) (rows : List Pl)
    (hok : ∀ sy, okPt (Tryz.Es Tryz.m4 sy) 8 pt = true) (hold : AllHold (nodeMu 8 rows (vals ++ ex)) t)
    (hid : d.sub 8 roc (idl 8 d.objs) (idA hk) (d.st 8 []) = true) (hlen : hk = vals.length) (hone : (vals ++ ex).all (·.oneCell') = true) (hrow : RowsHold W (nodeMu 8 rows (vals ++ ex)) rows roc)
    (hrun : leafFin (Tryz.Es Tryz.m4 (syOf t)) Tryz.f5 (fK (Tryz.Es Tryz.m4 (syOf t)) 100000 100000 pt (d.st 8 roc) j) = true) : NdGood Tryz.prog Tryz.f5 8 Tryz.H0 W pt d vals :=
  NdGood.fin (E := Tryz.Es Tryz.m4 (syOf t)) (extras := ex) (rows := rows) (by omega) (Tryz.right Tryz.m4 (syOf t) _ W Tryz.mOk4 (symOk_of rfl hold)) (hok _) hid hlen hone hrow hrun

def Zw.iv (f : Nat → Int) (n : Nat) : List Value := (List.range n).map fun i => .int .i64 (f i)
theorem Zw.iv_len (f : Nat → Int) (n : Nat) : (Zw.iv f n).length = n := by simp [Zw.iv]
theorem Zw.iv_get (f : Nat → Int) {n i : Nat} (h : i < n) : (Zw.iv f n)[i]? = some (.int .i64 (f i)) := by simp [Zw.iv, h]
theorem Zw.iv_succ (f : Nat → Int) (n : Nat) : Zw.iv f (n + 1) = Zw.iv f n ++ [.int .i64 (f n)] := by simp [Zw.iv, List.range_succ]
theorem Zw.iv_one (f : Nat → Int) : ∀ n, (Zw.iv f n).all (·.oneCell') = true
  | 0 => rfl
  | n + 1 => by rw [Zw.iv_succ, List.all_append, Zw.iv_one f n]; rfl
theorem Zw.at_ {ng : Nat} {rows : List Pl} {vals : List Value} {v k : Nat} (h : v = 1000 + k) : (nodeMu ng rows vals).at_ v = vals[k]? := by
  subst h
  show atomsOf vals (1000 + k) = _
  unfold atomsOf
  rw [if_pos (by omega)]
  congr 1; omega
theorem Zw.atX {ng : Nat} {rows : List Pl} {vals ex : List Value} {v t : Nat} (h : v = 1000 + vals.length + t) : (nodeMu ng rows (vals ++ ex)).at_ v = ex[t]? := by
  rw [Zw.at_ (k := vals.length + t) (by omega), List.getElem?_append_right (by omega)]
  congr 1; omega
theorem Zw.atC {ng : Nat} {rows : List Pl} {p w ex : List Value} {v i : Nat} (hv : v = 1000 + p.length + i) (hi : i < w.length) : (nodeMu ng rows ((p ++ w) ++ ex)).at_ v = w[i]? := by
  rw [Zw.at_ (k := p.length + i) (by omega), List.getElem?_append_left (by simp only [List.length_append]; omega), List.getElem?_append_right (by omega)]
  congr 1; omega
theorem Zw.ev_app {m : Mu} {vb : List Value} : ∀ {a va b : List Value}, evL m a = some va → evL m b = some vb → evL m (a ++ b) = some (va ++ vb)
  | [], va, b, h1, h2 => by cases h1; exact h2
  | u :: a, va, b, h1, h2 => by
    simp only [evL] at h1
    cases hu : evM m u with
    | none => rw [hu] at h1; cases h1
    | some x =>
      rw [hu] at h1
      cases hr : evL m a with
      | none => rw [hr] at h1; cases h1
      | some r =>
        rw [hr] at h1; cases h1
        show evL m (u :: (a ++ b)) = _
        simp only [evL, hu, Zw.ev_app hr h2]
        rfl
theorem Zw.ev_chR {m : Mu} : ∀ (l : List Value) (s : Nat), (∀ i x, l[i]? = some x → m.at_ (s + i) = some x) → evL m (Zw.chR s l.length) = some l
  | [], s, _ => rfl
  | x :: l, s, h => by
    have h0 := h 0 x rfl
    have ih := Zw.ev_chR l (s + 1) fun i y hy => by have := h (i + 1) y hy; rw [show s + 1 + i = s + (i + 1) by omega]; exact this
    have he : Zw.chR s (x :: l).length = ch s :: Zw.chR (s + 1) l.length := by
      unfold Zw.chR
      simp only [List.length_cons, List.range'_succ, List.map_cons]
    rw [he]
    simp only [evL, evM]
    rw [show m.at_ s = some x from h0, ih]
theorem Zw.vl_chR {m : Mu} : ∀ (l : List Value) (s : Nat), (∀ i x, l[i]? = some x → m.at_ (s + i) = some x) → VL m (Zw.chR s l.length) l
  | [], s, _ => VL.nil
  | x :: l, s, h => by
    have ih := Zw.vl_chR l (s + 1) fun i y hy => by have := h (i + 1) y hy; rw [show s + 1 + i = s + (i + 1) by omega]; exact this
    have he : Zw.chR s (x :: l).length = ch s :: Zw.chR (s + 1) l.length := by
      unfold Zw.chR
      simp only [List.length_cons, List.range'_succ, List.map_cons]
    rw [he]
    exact VL.cons (.atom _ _ (h 0 x rfl)) ih
theorem Zw.ah_app {m : Mu} {b : List SE} : ∀ {a : List SE}, AllHold m a → AllHold m b → AllHold m (a ++ b)
  | [], _, h2 => h2
  | _ :: _, h1, h2 => ⟨h1.1, Zw.ah_app h1.2 h2⟩
theorem Zw.holdN {m : Mu} : ∀ (s a : Nat), (∀ i, i < s → ∃ x, m.at_ (a + i) = some (.int .i64 x)) → AllHold m ((List.range' a s).map Zw.eN)
  | 0, _, _ => trivial
  | s + 1, a, h => by
    obtain ⟨x, hx⟩ := h 0 (by omega)
    rw [List.range'_succ, List.map_cons]
    exact ⟨hold_bool (.atom _ _ hx) (.atom _ _ hx) (op_neq_f rfl), Zw.holdN s (a + 1) fun i hi => by have := h (i + 1) (by omega); rw [show a + 1 + i = a + (i + 1) by omega]; exact this⟩

theorem Zw.fin {W : World} {a1 : Option Addr} {m1 c1 : Nat} {f1q0 : Nat → Int} (h1 : SlcOk W a1 m1 c1 1 (fun i => [.int .i64 (f1q0 i)])) (b1 : (m1 : Int) < 9223372036854775808) {q c : Nat} (hq : q < 2) (hc : c ≤ 10) (hm : c ≤ m1) (e : Bool) (he : (e = false ∧ m1 = c) ∨ (e = true ∧ c = 10 ∧ c < m1)) : NdGood Tryz.prog Tryz.f5 8 Tryz.H0 W Zw.p2 (Zw.dB q c) ([.slice a1 m1 c1] ++ Zw.iv f1q0 c) := by
  have hlen : 1 + c = ([Value.slice a1 m1 c1] ++ Zw.iv f1q0 c).length := by simp only [List.length_append, List.length_cons, List.length_nil, Zw.iv_len]
  have hrun : Zw.fB q c e = true := by
    rcases (show q = 0 ∨ q = 1 by omega) with rfl | rfl <;> rcases he with ⟨rfl, _⟩ | ⟨rfl, rfl, _⟩
    · exact Zw.al_get Zw.rF0 c (by omega)
    · exact Zw.rFt0
    · exact Zw.al_get Zw.rF1 c (by omega)
    · exact Zw.rFt1
  have hid : Zw.hF q c = true := by
    rcases (show q = 0 ∨ q = 1 by omega) with rfl | rfl
    · exact Zw.al_get Zw.iF0 c (by omega)
    · exact Zw.al_get Zw.iF1 c (by omega)
  have hlt : intOpA .lss .i64 (Int.ofNat c) (m1 : Int) = some (.bool e) := by
    rcases he with ⟨rfl, h⟩ | ⟨rfl, _, h⟩
    · exact op_lss_f (by simp only [Int.ofNat_eq_natCast]; omega)
    · exact op_lss_t (by simp only [Int.ofNat_eq_natCast]; omega)
  have hmin : (if (10 : Int) < (m1 : Int) then (10 : Int) else (m1 : Int)) = Int.ofNat c := by
    simp only [Int.ofNat_eq_natCast]
    rcases he with ⟨_, h⟩ | ⟨_, h, h'⟩ <;> split <;> omega
  have h1' := h1
  obtain ⟨hmc, hblk⟩ := h1
  cases c with
  | zero =>
    generalize hm' : nodeMu 8 [] (([Value.slice a1 m1 c1] ++ Zw.iv f1q0 0) ++ [.int .i64 (m1 : Int), .slice a1 0 c1]) = m
    have y0 : m.at_ 1000 = some (.slice a1 m1 c1) := by rw [← hm']; rfl
    have y1 : m.at_ 1001 = some (.int .i64 (m1 : Int)) := by rw [← hm']; rfl
    have y2 : m.at_ 1002 = some (.slice a1 0 c1) := by rw [← hm']; rfl
    have hold : AllHold m (Zw.tF 0 e) :=
      ⟨hold_len (.atom _ _ y0) (.atom _ _ y1), hold_bool (.int _ _) (.atom _ _ y1) hlt, ⟨.i64, (m1 : Int), 10, .atom _ _ y1, .int _ _, by rw [hmin]; exact .int _ _⟩,
        ⟨a1, m1, c1, .i64, 0, .atom _ _ y0, .int _ _, Nat.zero_le _, hblk.imp id fun ⟨blk, off, h, _⟩ => ⟨blk, off, h⟩, .atom _ _ y2⟩, ⟨a1, 0, c1, .atom _ _ y2, .int _ _⟩, trivial⟩
    rw [← hm'] at hold
    exact Zw.fx (Zw.tF 0 e) [.int .i64 (m1 : Int), .slice a1 0 c1] [] (fun sy => Zw.k2 Tryz.m4 sy) hold hid hlen rfl rowsHold_nil hrun
  | succ c =>
    obtain ⟨blk, off, rfl, cs, et, fr, g1, g2⟩ : ∃ blk off, a1 = some ⟨blk, off, none⟩ ∧ ∃ cs e fr, W.heap[blk]? = some (.cells cs e fr) ∧ ∀ i, i < m1 → ∀ (t : Nat) x, ([Value.int .i64 (f1q0 i)])[t]? = some x → cs[off + i * 1 + t]? = some x := by
      rcases hblk with h | h
      · omega
      · exact h
    generalize hp : (⟨blk, off, c1 - (c + 1)⟩ : Pl) = p
    generalize hm' : nodeMu 8 [p] (([Value.slice (some ⟨blk, off, none⟩) m1 c1] ++ Zw.iv f1q0 (c + 1)) ++ [.int .i64 (m1 : Int)]) = m
    have y0 : m.at_ 1000 = some (.slice (some ⟨blk, off, none⟩) m1 c1) := by rw [← hm']; rfl
    have y1 : m.at_ (1001 + (c + 1)) = some (.int .i64 (m1 : Int)) := by rw [← hm', Zw.atX (t := 0) (by rw [← hlen]; omega)]; rfl
    have hpl : m.pl 8 = some p := by rw [← hm']; rfl
    have cell : ∀ j x, (Zw.iv f1q0 (c + 1))[j]? = some x → m.at_ (1001 + j) = some x := fun j x hx => by
      have hj : j < (Zw.iv f1q0 (c + 1)).length := (List.getElem?_eq_some_iff.1 hx).1
      rw [← hm', Zw.atC (i := j) (by simp only [List.length_cons, List.length_nil] <;> omega) hj]; exact hx
    have hsl : VR m (.slice (some ⟨8, 0, some 1⟩) (c + 1) (c + 1)) (.slice (some ⟨blk, off, none⟩) (c + 1) c1) := by
      have := VR.slo (μ := m) 8 0 (c + 1) (c + 1) p hpl
      rw [← hp] at this
      simp only [Nat.add_zero, show c + 1 + (c1 - (c + 1)) = c1 by omega] at this
      exact this
    have hold : AllHold m (Zw.tF (c + 1) e) := by
      refine ⟨hold_len (.atom _ _ y0) (.atom _ _ y1), hold_bool (.int _ _) (.atom _ _ y1) hlt, ⟨.i64, (m1 : Int), 10, .atom _ _ y1, .int _ _, by rw [hmin]; exact .int _ _⟩,
        ⟨some ⟨blk, off, none⟩, m1, c1, .i64, c + 1, .atom _ _ y0, .int _ _, by omega, .inr ⟨blk, off, rfl⟩, hsl⟩, ?_⟩
      exact Zw.holdN _ _ fun i hi => ⟨f1q0 i, cell i _ (Zw.iv_get f1q0 hi)⟩
    have hrow : RowsHold W m [p] [Zw.chR 1001 (c + 1)] := by
      refine rowsHold_cons ⟨cs, et, fr, by rw [← hp]; exact g1, fun i v hv => ?_⟩ rowsHold_nil
      have hi : i < c + 1 := by
        have := (List.getElem?_eq_some_iff.1 hv).1
        simpa [Zw.chR] using this
      have hvc : v = ch (1001 + i) := by
        simp only [Zw.chR, List.getElem?_map, List.getElem?_range' hi, Option.map_some, Option.some.injEq] at hv
        rw [← hv]; simp
      refine ⟨.int .i64 (f1q0 i), ?_, ?_⟩
      · have := g2 i (by omega) 0 _ rfl
        rw [← hp]
        simpa using this
      · rw [hvc]
        exact .atom _ _ (cell i _ (Zw.iv_get f1q0 hi))
    rw [← hm'] at hold hrow
    refine Zw.fx (Zw.tF (c + 1) e) [.int .i64 (m1 : Int)] [p] (fun sy => Zw.k2 Tryz.m4 sy) hold hid hlen ?_ hrow hrun
    simp only [List.all_append, Zw.iv_one]; rfl

theorem Zw.nB {W : World} {a1 : Option Addr} {m1 c1 : Nat} {f1q0 : Nat → Int} (h1 : SlcOk W a1 m1 c1 1 (fun i => [.int .i64 (f1q0 i)])) (b1 : (m1 : Int) < 9223372036854775808) {q : Nat} (hq : q < 2) : ∀ (k c : Nat), c ≤ 10 → c ≤ m1 → 10 - c < k → NdGood Tryz.prog Tryz.f5 8 Tryz.H0 W Zw.p2 (Zw.dB q c) ([.slice a1 m1 c1] ++ Zw.iv f1q0 c)
  | 0, _, _, _, h => absurd h (Nat.not_lt_zero _)
  | k + 1, c, hc, hm, hk => by
    have hlen : 1 + c = ([Value.slice a1 m1 c1] ++ Zw.iv f1q0 c).length := by simp only [List.length_append, List.length_cons, List.length_nil, Zw.iv_len]
    rcases Nat.lt_or_ge c m1 with h | h
    case inr => exact Zw.fin h1 b1 hq hc hm false (.inl ⟨rfl, by omega⟩)
    rcases Nat.lt_or_ge c 10 with h10 | h10
    case inr => exact Zw.fin h1 b1 hq hc hm true (.inr ⟨rfl, by omega, h⟩)
    obtain ⟨p, v⟩ := h1.elem h
    generalize hm' : nodeMu 8 [p] (([Value.slice a1 m1 c1] ++ Zw.iv f1q0 c) ++ [.int .i64 (f1q0 c), .int .i64 (m1 : Int)]) = m
    have y0 : m.at_ 1000 = some (.slice a1 m1 c1) := by rw [← hm']; rfl
    have x0 : m.at_ (1001 + c) = some (.int .i64 (f1q0 c)) := by rw [← hm', Zw.atX (t := 0) (by rw [← hlen]; omega)]; rfl
    have x1 : m.at_ (1001 + c + 1) = some (.int .i64 (m1 : Int)) := by rw [← hm', Zw.atX (t := 1) (by rw [← hlen]; omega)]; rfl
    have hp : m.pl 8 = some p := by rw [← hm']; rfl
    have cell : ∀ j x, (Zw.iv f1q0 (c + 1))[j]? = some x → m.at_ (1001 + j) = some x := fun j x hx => by
      have hj : j < c + 1 := by have := (List.getElem?_eq_some_iff.1 hx).1; rwa [Zw.iv_len] at this
      rcases Nat.lt_or_ge j c with hj2 | hj2
      · rw [← hm', Zw.atC (i := j) (by simp only [List.length_cons, List.length_nil] <;> omega) (by rw [Zw.iv_len]; exact hj2), Zw.iv_get f1q0 hj2, ← Zw.iv_get f1q0 hj]; exact hx
      · obtain rfl : j = c := by omega
        rw [Zw.iv_get f1q0 hj] at hx; cases hx; exact x0
    have hold : AllHold m (Zw.tN c (1001 + c)) :=
      ⟨hold_len (.atom _ _ y0) (.atom _ _ x1), hold_bool (.int _ _) (.atom _ _ x1) (op_lss_t (show Int.ofNat c < (m1 : Int) by simp only [Int.ofNat_eq_natCast]; omega)), hold_idx v h (.atom _ _ y0) (.int _ _) rfl hp, trivial⟩
    have hrow : RowsHold W m [p] [[ch (1001 + c)]] := rowsHold_cons (Elem.row v (VL.cons (.atom _ _ x0) VL.nil)) rowsHold_nil
    have hr : Zw.LB q c = some Zw.p2 := by
      rcases (show q = 0 ∨ q = 1 by omega) with rfl | rfl
      · exact Zw.rep Zw.rB0 c h10
      · exact Zw.rep Zw.rB1 c h10
    have hid : Zw.hB q c = true := by
      rcases (show q = 0 ∨ q = 1 by omega) with rfl | rfl
      · exact Zw.al_get Zw.iB0 c h10
      · exact Zw.al_get Zw.iB1 c h10
    rw [← hm'] at hold hrow
    refine Zw.nx (Zw.tN c (1001 + c)) _ [p] (fun sy => Zw.k2 Tryz.m4 sy) hold hid hrow hr (Zw.nB h1 b1 hq k (c + 1) h10 h (by omega)) hlen ?_ ?_ ?_
    · simp only [List.all_append, Zw.iv_one]; rfl
    · rw [hm']
      refine Zw.ev_app (va := [.slice a1 m1 c1]) (by simp only [evL, evM, y0]) ?_
      have := Zw.ev_chR (m := m) (Zw.iv f1q0 (c + 1)) 1001 cell
      rw [Zw.iv_len] at this
      exact this
    · simp only [List.all_append, Zw.iv_one]; rfl

theorem Zw.nX {W : World} {a0 : Option Addr} {m0 c0 : Nat} {f0q0 : Nat → Int} {a1 : Option Addr} {m1 c1 : Nat} {f1q0 : Nat → Int} (h0 : SlcOk W a0 m0 c0 1 (fun i => [.int .i64 (f0q0 i)])) (b0 : (m0 : Int) < 9223372036854775808) (r0q0 : ∀ i, R64 (f0q0 i)) (h1 : SlcOk W a1 m1 c1 1 (fun i => [.int .i64 (f1q0 i)])) (b1 : (m1 : Int) < 9223372036854775808) (r1q0 : ∀ i, R64 (f1q0 i)) {c : Nat} (hc : c ≤ 10) (e : Bool) (he : (e = false ∧ m0 ≤ c) ∨ (e = true ∧ c = 10 ∧ c < m0)) : NdGood Tryz.prog Tryz.f5 8 Tryz.H0 W Zw.p0 (Zw.dA c) ([.slice a0 m0 c0, .slice a1 m1 c1] ++ Zw.iv f0q0 c) := by
  have hlen : 2 + c = ([Value.slice a0 m0 c0, .slice a1 m1 c1] ++ Zw.iv f0q0 c).length := by simp only [List.length_append, List.length_cons, List.length_nil, Zw.iv_len]
  generalize hm' : nodeMu 8 [] (([Value.slice a0 m0 c0, .slice a1 m1 c1] ++ Zw.iv f0q0 c) ++ [.int .i64 (m0 : Int)]) = m
  have y0 : m.at_ 1000 = some (.slice a0 m0 c0) := by rw [← hm']; rfl
  have y1 : m.at_ 1001 = some (.slice a1 m1 c1) := by rw [← hm']; rfl
  have x0 : m.at_ (1002 + c) = some (.int .i64 (m0 : Int)) := by rw [← hm', Zw.atX (t := 0) (by rw [← hlen]; omega)]; rfl
  have hlt : intOpA .lss .i64 (Int.ofNat c) (m0 : Int) = some (.bool e) := by
    rcases he with ⟨rfl, h⟩ | ⟨rfl, _, h⟩
    · exact op_lss_f (by simp only [Int.ofNat_eq_natCast]; omega)
    · exact op_lss_t (by simp only [Int.ofNat_eq_natCast]; omega)
  have hold : AllHold m (Zw.tX c (1002 + c) e) := ⟨hold_len (.atom _ _ y0) (.atom _ _ x0), hold_bool (.int _ _) (.atom _ _ x0) hlt, trivial⟩
  have hr : Zw.LX c e = some Zw.p2 := by
    rcases he with ⟨rfl, _⟩ | ⟨rfl, rfl, _⟩
    · exact Zw.rep Zw.rX c (by omega)
    · exact Zw.rXt
  rw [← hm'] at hold
  refine Zw.nx (Zw.tX c (1002 + c) e) [.int .i64 (m0 : Int)] [] (fun sy => Zw.k0 Tryz.m4 sy) hold (Zw.al_get Zw.iX c (by omega)) rowsHold_nil hr (vals' := [.slice a1 m1 c1]) (Zw.nB h1 b1 (q := Zw.qc c) (by cases c <;> simp [Zw.qc]) 11 0 (by omega) (by omega) (by omega)) hlen ?_ ?_ rfl
  · simp only [List.all_append, Zw.iv_one]; rfl
  · rw [hm']; simp only [evL, evM, y1]

theorem Zw.nA {W : World} {a0 : Option Addr} {m0 c0 : Nat} {f0q0 : Nat → Int} {a1 : Option Addr} {m1 c1 : Nat} {f1q0 : Nat → Int} (h0 : SlcOk W a0 m0 c0 1 (fun i => [.int .i64 (f0q0 i)])) (b0 : (m0 : Int) < 9223372036854775808) (r0q0 : ∀ i, R64 (f0q0 i)) (h1 : SlcOk W a1 m1 c1 1 (fun i => [.int .i64 (f1q0 i)])) (b1 : (m1 : Int) < 9223372036854775808) (r1q0 : ∀ i, R64 (f1q0 i)) : ∀ (k c : Nat), c ≤ 10 → 10 - c < k → NdGood Tryz.prog Tryz.f5 8 Tryz.H0 W Zw.p0 (Zw.dA c) ([.slice a0 m0 c0, .slice a1 m1 c1] ++ Zw.iv f0q0 c)
  | 0, _, _, h => absurd h (Nat.not_lt_zero _)
  | k + 1, c, hc, hk => by
    have hlen : 2 + c = ([Value.slice a0 m0 c0, .slice a1 m1 c1] ++ Zw.iv f0q0 c).length := by simp only [List.length_append, List.length_cons, List.length_nil, Zw.iv_len]
    rcases Nat.lt_or_ge c m0 with h | h
    case inr => exact Zw.nX h0 b0 r0q0 h1 b1 r1q0 hc false (.inl ⟨rfl, h⟩)
    rcases Nat.lt_or_ge c 10 with h10 | h10
    case inr => exact Zw.nX h0 b0 r0q0 h1 b1 r1q0 hc true (.inr ⟨rfl, by omega, h⟩)
    obtain ⟨p, v⟩ := h0.elem h
    generalize hm' : nodeMu 8 [p] (([Value.slice a0 m0 c0, .slice a1 m1 c1] ++ Zw.iv f0q0 c) ++ [.int .i64 (f0q0 c), .int .i64 (m0 : Int)]) = m
    have y0 : m.at_ 1000 = some (.slice a0 m0 c0) := by rw [← hm']; rfl
    have y1 : m.at_ 1001 = some (.slice a1 m1 c1) := by rw [← hm']; rfl
    have x0 : m.at_ (1002 + c) = some (.int .i64 (f0q0 c)) := by rw [← hm', Zw.atX (t := 0) (by rw [← hlen]; omega)]; rfl
    have x1 : m.at_ (1002 + c + 1) = some (.int .i64 (m0 : Int)) := by rw [← hm', Zw.atX (t := 1) (by rw [← hlen]; omega)]; rfl
    have hp : m.pl 8 = some p := by rw [← hm']; rfl
    have cell : ∀ j x, (Zw.iv f0q0 (c + 1))[j]? = some x → m.at_ (1002 + j) = some x := fun j x hx => by
      have hj : j < c + 1 := by have := (List.getElem?_eq_some_iff.1 hx).1; rwa [Zw.iv_len] at this
      rcases Nat.lt_or_ge j c with hj2 | hj2
      · rw [← hm', Zw.atC (i := j) (by simp only [List.length_cons, List.length_nil] <;> omega) (by rw [Zw.iv_len]; exact hj2), Zw.iv_get f0q0 hj2, ← Zw.iv_get f0q0 hj]; exact hx
      · obtain rfl : j = c := by omega
        rw [Zw.iv_get f0q0 hj] at hx; cases hx; exact x0
    have hold : AllHold m (Zw.tN c (1002 + c)) :=
      ⟨hold_len (.atom _ _ y0) (.atom _ _ x1), hold_bool (.int _ _) (.atom _ _ x1) (op_lss_t (show Int.ofNat c < (m0 : Int) by simp only [Int.ofNat_eq_natCast]; omega)), hold_idx v h (.atom _ _ y0) (.int _ _) rfl hp, trivial⟩
    have hrow : RowsHold W m [p] [[ch (1002 + c)]] := rowsHold_cons (Elem.row v (VL.cons (.atom _ _ x0) VL.nil)) rowsHold_nil
    rw [← hm'] at hold hrow
    refine Zw.nx (Zw.tN c (1002 + c)) _ [p] (fun sy => Zw.k0 Tryz.m4 sy) hold (Zw.al_get Zw.iA c h10) hrow (Zw.rep Zw.rA c h10) (Zw.nA h0 b0 r0q0 h1 b1 r1q0 k (c + 1) h10 (by omega)) hlen ?_ ?_ ?_
    · simp only [List.all_append, Zw.iv_one]; rfl
    · rw [hm']
      refine Zw.ev_app (va := [.slice a0 m0 c0, .slice a1 m1 c1]) (by simp only [evL, evM, y0, y1]) ?_
      have := Zw.ev_chR (m := m) (Zw.iv f0q0 (c + 1)) 1002 cell
      rw [Zw.iv_len] at this
      exact this
    · simp only [List.all_append, Zw.iv_one]; rfl

theorem Zw.n0 {W : World} {a0 : Option Addr} {m0 c0 : Nat} {f0q0 : Nat → Int} {a1 : Option Addr} {m1 c1 : Nat} {f1q0 : Nat → Int} (h0 : SlcOk W a0 m0 c0 1 (fun i => [.int .i64 (f0q0 i)])) (b0 : (m0 : Int) < 9223372036854775808) (r0q0 : ∀ i, R64 (f0q0 i)) (h1 : SlcOk W a1 m1 c1 1 (fun i => [.int .i64 (f1q0 i)])) (b1 : (m1 : Int) < 9223372036854775808) (r1q0 : ∀ i, R64 (f1q0 i)) : NdGood Tryz.prog Tryz.f5 8 Tryz.H0 W Zw.pS Zw.d0 [(.slice a0 m0 c0), (.slice a1 m1 c1)] :=
  Zw.nx [] [] [] (fun sy => Zw.kS Tryz.m4 sy) trivial Zw.iS rowsHold_nil Zw.rS0 (vals' := [.slice a0 m0 c0, .slice a1 m1 c1]) (Zw.nA h0 b0 r0q0 h1 b1 r1q0 11 0 (by omega) (by omega)) rfl rfl rfl rfl
end Go.Proofs
