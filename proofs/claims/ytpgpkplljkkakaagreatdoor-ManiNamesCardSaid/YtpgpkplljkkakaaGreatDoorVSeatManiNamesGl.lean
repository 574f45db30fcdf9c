/- The law: what is known of names; hence from its start, for every input. No conditions. -/
import Derived.Test.YtpgpkplljkkakaaGreatDoorVSeatManiNamesR1
set_option linter.all false
namespace Go.Proofs
open Go Go.Vsx Go.RowKit
set_option maxRecDepth 1000000
set_option maxHeartbeats 4000000
set_option linter.unusedVariables false
theorem Zw.fx {W : World} (htab : Lib.TabIs Tryz.prog W "internal/strconv.uint64pow10" .u64 Lib.pow10Tab) {pt : Pt} {d : Nd} {vals : List Value} {roc : List (List Value)} {j hk : Nat} (t : List SE) (ex : List Value) (rows : List Pl)
    (hok : ∀ sy, okPt (Tryz.Es Zw.mS sy) 8 pt = true) (hold : AllHold (nodeMu 8 rows (vals ++ ex)) t)
    (hid : d.sub 8 roc (idl 8 d.objs) (idA hk) (d.st 8 []) = true) (hlen : hk = vals.length) (hone : (vals ++ ex).all (·.oneCell') = true) (hrow : RowsHold W (nodeMu 8 rows (vals ++ ex)) rows roc)
    (hrun : leafFin (Tryz.Es Zw.mS (syOf t)) Tryz.f3 (fK (Tryz.Es Zw.mS (syOf t)) 100000 100000 pt (d.st 8 roc) j) = true) : NdGood Tryz.prog Tryz.f3 8 Tryz.H0 W pt d vals :=
  NdGood.fin (E := Tryz.Es Zw.mS (syOf t)) (extras := ex) (rows := rows) (by omega) (Zw.rightS (syOf t) _ W htab (symOk_of rfl hold)) (hok _) hid hlen hone hrow hrun
/-! strings of digits -/
def Zs.padL : Nat → Nat → List UInt8
  | 0, _ => []
  | k + 1, n => Zs.padL k (n / 10) ++ [UInt8.ofNat (48 + n % 10)]
theorem Zs.padL_len : ∀ k n, (Zs.padL k n).length = k
  | 0, _ => rfl
  | k + 1, n => by rw [Zs.padL, List.length_append, Zs.padL_len k]; rfl
theorem Zs.padL_zero : ∀ k, Zs.padL k 0 = Lib.repeatL [48] k
  | 0 => rfl
  | k + 1 => by
    rw [Zs.padL, Zs.padL_zero k]
    have : ∀ k, Lib.repeatL [(48 : UInt8)] k ++ [48] = 48 :: Lib.repeatL [48] k := by
      intro k
      induction k with
      | zero => rfl
      | succ k ih => simp only [Lib.repeatL, List.cons_append, List.nil_append, ih]
    exact this k
theorem Zs.rep_len (k : Nat) : (Lib.repeatL [(48 : UInt8)] k).length = k := by rw [Lib.repeatL_length]; simp
theorem Zs.pad_dec : ∀ k n, 1 ≤ k → n < 10 ^ k → 1 ≤ (Lib.decDigits n).length ∧ (Lib.decDigits n).length ≤ k ∧ Lib.repeatL [48] (k - (Lib.decDigits n).length) ++ Lib.decDigits n = Zs.padL k n
  | 0, _, h, _ => by omega
  | k + 1, n, _, h => by
    by_cases hn : n < 10
    · have e : Lib.decDigits n = [UInt8.ofNat (48 + n)] := by rw [Lib.decDigits, dif_pos hn]
      rw [e]
      refine ⟨by simp, by simp, ?_⟩
      rw [Zs.padL, show n / 10 = 0 by omega, show n % 10 = n by omega, Zs.padL_zero]
      rfl
    · have e : Lib.decDigits n = Lib.decDigits (n / 10) ++ [UInt8.ofNat (48 + n % 10)] := by rw [Lib.decDigits, dif_neg hn]
      have hk : 1 ≤ k := by
        cases k with
        | zero => simp at h; omega
        | succ k => omega
      obtain ⟨h1, h2, h3⟩ := Zs.pad_dec k (n / 10) hk (by rw [Nat.pow_succ] at h; omega)
      rw [e]
      simp only [List.length_append, List.length_cons, List.length_nil]
      refine ⟨by omega, by omega, ?_⟩
      rw [show k + 1 - ((Lib.decDigits (n / 10)).length + (0 + 1)) = k - (Lib.decDigits (n / 10)).length by omega, ← List.append_assoc, h3, Zs.padL]
theorem Zs.itoa_nat (n : Nat) : Lib.itoa (n : Int) = Lib.decDigits n := by
  unfold Lib.itoa
  rw [if_neg (by omega), Int.toNat_natCast]
theorem Zs.bl_pre : ∀ (p x y : List UInt8), Op.bytesLess (p ++ x) (p ++ y) = Op.bytesLess x y
  | [], _, _ => rfl
  | a :: p, x, y => by
    simp only [List.cons_append, Op.bytesLess, Zs.bl_pre p x y]
    simp
theorem Zs.bl_lt : ∀ {x y : List UInt8} (r r' : List UInt8), x.length = y.length → Op.bytesLess x y = true → Op.bytesLess (x ++ r) (y ++ r') = true
  | [], [], _, _, _, h => by simp [Op.bytesLess] at h
  | [], _ :: _, _, _, h, _ => by simp at h
  | _ :: _, [], _, _, h, _ => by simp at h
  | a :: x, b :: y, r, r', h, k => by
    simp only [List.cons_append, Op.bytesLess, Bool.or_eq_true, Bool.and_eq_true] at k ⊢
    rcases k with k | ⟨k1, k2⟩
    · exact .inl k
    · exact .inr ⟨k1, Zs.bl_lt r r' (by simpa using h) k2⟩
theorem Zs.bl_self : ∀ x : List UInt8, Op.bytesLess x x = false
  | [] => rfl
  | a :: x => by simp [Op.bytesLess, Zs.bl_self x]
theorem Zs.bl_asym : ∀ {x y : List UInt8}, Op.bytesLess x y = true → Op.bytesLess y x = false
  | [], [], h => by simp [Op.bytesLess] at h
  | [], _ :: _, _ => by simp [Op.bytesLess]
  | _ :: _, [], h => by simp [Op.bytesLess] at h
  | a :: x, b :: y, h => by
    simp only [Op.bytesLess, Bool.or_eq_true, Bool.and_eq_true, decide_eq_true_eq, beq_iff_eq] at h
    simp only [Op.bytesLess, Bool.or_eq_false_iff, Bool.and_eq_false_iff, decide_eq_false_iff_not]
    rcases h with h | ⟨rfl, h⟩
    · refine ⟨fun k => ?_, .inl ?_⟩
      · exact absurd (UInt8.lt_trans h k) (UInt8.lt_irrefl _)
      · simp only [beq_eq_false_iff_ne]; rintro rfl; exact UInt8.lt_irrefl _ h
    · exact ⟨UInt8.lt_irrefl _, .inr (Zs.bl_asym h)⟩
theorem Zs.dig_lt {a b : Nat} (ha : a < 10) (hb : b < 10) : (UInt8.ofNat (48 + a) < UInt8.ofNat (48 + b)) ↔ a < b := by
  rw [UInt8.lt_iff_toNat_lt, UInt8.toNat_ofNat', UInt8.toNat_ofNat']; omega
theorem Zs.bl_pad : ∀ k {u v : Nat}, u < v → v < 10 ^ k → Op.bytesLess (Zs.padL k u) (Zs.padL k v) = true
  | 0, u, v, h, k => by simp at k; omega
  | k + 1, u, v, h, hv => by
    simp only [Zs.padL]
    rw [Nat.pow_succ] at hv
    by_cases e : u / 10 = v / 10
    · rw [e, Zs.bl_pre]
      have : UInt8.ofNat (48 + u % 10) < UInt8.ofNat (48 + v % 10) := (Zs.dig_lt (by omega) (by omega)).2 (by omega)
      show (decide _ || _) = true
      rw [decide_eq_true this]; rfl
    · exact Zs.bl_lt _ _ (by rw [Zs.padL_len, Zs.padL_len]) (Zs.bl_pad k (by omega) (by omega))
theorem Zs.pad_inj {k u v : Nat} (hu : u < 10 ^ k) (hv : v < 10 ^ k) (h : Zs.padL k u = Zs.padL k v) : u = v := by
  rcases Nat.lt_trichotomy u v with q | q | q
  · have := Zs.bl_pad k q hv; rw [h, Zs.bl_self] at this; cases this
  · exact q
  · have := Zs.bl_pad k q hu; rw [h, Zs.bl_self] at this; cases this
def Zs.ba (l : List UInt8) : ByteArray := ⟨l.toArray⟩
theorem Zs.ba_toList (l : List UInt8) : (Zs.ba l).toList = l := by unfold Zs.ba; rw [ByteArray.toList_mk]
theorem Zs.ba_app (a b : List UInt8) : Zs.ba a ++ Zs.ba b = Zs.ba (a ++ b) := by
  apply ByteArray.ext
  simp [Zs.ba]
theorem Zs.ba_size (l : List UInt8) : (Zs.ba l).size = l.length := List.size_toArray
theorem Zs.add_ok {a b c : List UInt8} (h : a ++ b = c) (hl : c.length < 1000) : strOpA .add (Zs.ba a) (Zs.ba b) = some (.string (Zs.ba c)) := by
  have h2 := congrArg List.length h
  rw [List.length_append] at h2
  simp only [strOpA]
  rw [if_pos (by rw [Zs.ba_size, Zs.ba_size]; omega), Zs.ba_app, h]
theorem Zs.lss_ok {a b : List UInt8} {q : Bool} (h : Op.bytesLess a b = q) : strOpA .lss (Zs.ba a) (Zs.ba b) = some (.bool q) := by
  simp only [strOpA, Zs.ba_toList, h]
theorem Zs.eql_ok {a b : List UInt8} {q : Bool} (h : (a == b) = q) : strOpA .eql (Zs.ba a) (Zs.ba b) = some (.bool q) := by
  simp only [strOpA, Zs.ba_toList, h]
theorem Zs.neq_ok {a b : List UInt8} {q : Bool} (h : (!(a == b)) = q) : strOpA .neq (Zs.ba a) (Zs.ba b) = some (.bool q) := by
  simp only [strOpA, Zs.ba_toList, h]
def Zw.vN (d a : Int) (u : Nat) : List Value := [.int .i64 d, .int .i64 a, .string (Zs.ba (Lib.decDigits u)), .int .i64 ((Lib.decDigits u).length : Int), .int .i64 ((5 - (Lib.decDigits u).length : Nat) : Int), .string (Zs.ba (Lib.repeatL [48] (5 - (Lib.decDigits u).length))), .string (Zs.ba (99 :: Lib.repeatL [48] (5 - (Lib.decDigits u).length))), .string (Zs.ba (99 :: Zs.padL 5 u)), .int .i64 0, .int .i64 0]
def Zw.c (u : Nat) : UInt8 := UInt8.ofNat (48 + u % 10)
def Zw.vD (u : Nat) (l : List UInt8) : List Value := [.int .i64 ((u % 10 : Nat) : Int), .int .i64 ((48 + u % 10 : Nat) : Int), .int .u8 (Zw.c u).toNat, .string (Zs.ba [Zw.c u]), .string (Zs.ba (Zw.c u :: l)), .int .i64 ((u / 10 : Nat) : Int)]
def Zw.ex (d1 a d3 b : Int) : List Value := Zw.vN d1 a a.toNat ++ (Zw.vN d3 b b.toNat ++ (List.replicate 8 (.int .i64 0) ++ (Zw.vD a.toNat [] ++ (Zw.vD (a.toNat / 10) [Zw.c a.toNat] ++ (Zw.vD (a.toNat / 10 / 10) [Zw.c (a.toNat / 10), Zw.c a.toNat] ++ (Zw.vD (a.toNat / 10 / 10 / 10) [Zw.c (a.toNat / 10 / 10), Zw.c (a.toNat / 10), Zw.c a.toNat] ++ Zw.vD (a.toNat / 10 / 10 / 10 / 10) [Zw.c (a.toNat / 10 / 10 / 10), Zw.c (a.toNat / 10 / 10), Zw.c (a.toNat / 10), Zw.c a.toNat]))))))
theorem Zw.ah_app {m : Mu} {b : List SE} : ∀ {a : List SE}, AllHold m a → AllHold m b → AllHold m (a ++ b)
  | [], _, h2 => h2
  | _ :: _, h1, h2 => ⟨h1.1, Zw.ah_app h1.2 h2⟩
theorem Zw.hold_s {m : Mu} {op : BinOp} {x y r : Value} {s t : ByteArray} {r' : Value} (hx : VR m x (.string s)) (hy : VR m y (.string t)) (h : strOpA op s t = some r') (hr : VR m r r') : SymHolds m (.sbin op) x y r := ⟨s, t, r', hx, hy, h, hr⟩
theorem Zw.dg_hold {m : Mu} {z s u : Nat} {p : Value} {l : List UInt8} (hz : m.at_ z = some (.int .i64 (u : Int))) (hp : VR m p (.string (Zs.ba l))) (hl : l.length < 900) (hu : u < 1000000)
    (h0 : m.at_ s = some (.int .i64 ((u % 10 : Nat) : Int))) (h1 : m.at_ (s + 1) = some (.int .i64 ((48 + u % 10 : Nat) : Int))) (h2 : m.at_ (s + 2) = some (.int .u8 (Zw.c u).toNat)) (h3 : m.at_ (s + 3) = some (.string (Zs.ba [Zw.c u])))
    (h4 : m.at_ (s + 4) = some (.string (Zs.ba (Zw.c u :: l)))) (h5 : m.at_ (s + 5) = some (.int .i64 ((u / 10 : Nat) : Int))) : AllHold m (Zw.dg z s p) := by
  refine ⟨hold_op (.atom _ _ hz) (.int _ _) ?_ (.atom _ _ h0), hold_op (.int _ _) (.atom _ _ h0) ?_ (.atom _ _ h1), hold_conv (.atom _ _ h1) (.atom _ _ h2) ?_, ⟨[], Zw.c u, .str _, .atom _ _ h2, .atom _ _ h3⟩, Zw.hold_s (.atom _ _ h3) hp (Zs.add_ok rfl (by simp; omega)) (.atom _ _ h4), hold_op (.atom _ _ hz) (.int _ _) ?_ (.atom _ _ h5), trivial⟩
  · simp only [intOpA]
    rw [if_neg (by decide), Int.tmod_eq_emod_of_nonneg (by omega)]
    rfl
  · simp only [intOpA]
    rw [wrap64 (by omega) (by omega)]
    rfl
  · rw [IntKind.wrap_u8]
    unfold Zw.c
    rw [UInt8.toNat_ofNat']
    omega
  · simp only [intOpA]
    rw [if_neg (by decide)]
    have : ((u : Int).tdiv 10) = ((u / 10 : Nat) : Int) := by
      rw [Int.tdiv_eq_ediv_of_nonneg (by omega)]; rfl
    rw [this, wrap64 (by omega) (by omega)]
theorem Zw.nOk_hold {m : Mu} {d u : Nat} (h1 : 1 ≤ u) (h2 : u ≤ 99999) (hu : m.at_ (d + 1) = some (.int .i64 (u : Int))) (k2 : m.at_ (d + 2) = some (.string (Zs.ba (Lib.decDigits u)))) (k3 : m.at_ (d + 3) = some (.int .i64 ((Lib.decDigits u).length : Int)))
    (k4 : m.at_ (d + 4) = some (.int .i64 ((5 - (Lib.decDigits u).length : Nat) : Int))) (k5 : m.at_ (d + 5) = some (.string (Zs.ba (Lib.repeatL [48] (5 - (Lib.decDigits u).length))))) (k6 : m.at_ (d + 6) = some (.string (Zs.ba (99 :: Lib.repeatL [48] (5 - (Lib.decDigits u).length)))))
    (k7 : m.at_ (d + 7) = some (.string (Zs.ba (99 :: Zs.padL 5 u)))) : AllHold m (Zw.nOk d) := by
  obtain ⟨l1, l2, l3⟩ := Zs.pad_dec 5 u (by omega) (by omega)
  refine ⟨hold_bool (.atom _ _ hu) (.int _ _) (op_lss_f (by omega)), hold_bool (.atom _ _ hu) (.int _ _) (op_gtr_f (by omega)), hold_bool (.atom _ _ hu) (.int _ _) (op_geq_t (by omega)), hold_bool (.atom _ _ hu) (.int _ _) (op_leq_t (by omega)),
    ⟨(u : Int), .atom _ _ hu, by omega, by omega, by rw [Zs.itoa_nat]; exact .atom _ _ k2⟩, ⟨_, .atom _ _ k2, by rw [Zs.ba_size]; exact .atom _ _ k3⟩, hold_op (.int _ _) (.atom _ _ k3) (op_sub (by omega) (by omega) (by omega)) (.atom _ _ k4),
    ⟨Zs.ba [48], 5 - (Lib.decDigits u).length, .str _, .atom _ _ k4, by omega, by decide, .atom _ _ k5⟩, Zw.hold_s (.str (Zs.ba [99])) (.atom _ _ k5) (Zs.add_ok rfl (by simp [Zs.rep_len]; omega)) (.atom _ _ k6),
    Zw.hold_s (.atom _ _ k6) (.atom _ _ k2) (Zs.add_ok (by rw [List.cons_append, l3]) (by simp [Zs.padL_len])) (.atom _ _ k7), Zw.hold_s (.atom _ _ k7) (.str (Zs.ba [])) (Zs.neq_ok (by simp)) (.bool true), trivial⟩

theorem Zw.n0 {W : World} {n0 n1 : Int} (htab : Lib.TabIs Tryz.prog W "internal/strconv.uint64pow10" .u64 Lib.pow10Tab) (r0 : R64 n0) (r1 : R64 n1) : NdGood Tryz.prog Tryz.f3 8 Tryz.H0 W Zw.pS Zw.d0 [(.int .i64 n0), (.int .i64 n1)] := by
  have ⟨rl0, rh0⟩ := r0
  have ⟨rl1, rh1⟩ := r1
  obtain ⟨d1, ⟨y1, e1, z1, u1, v1⟩, g1, o1⟩ := ex_rem n0 (100020 : Int) (by omega) (by omega)
  obtain ⟨a, e2, g2, o2⟩ := ex_sub d1 (9 : Int)
  have f2 : a = d1 - 9 := by omega
  obtain ⟨d3, ⟨y3, e3, z3, u3, v3⟩, g3, o3⟩ := ex_rem n1 (100020 : Int) (by omega) (by omega)
  obtain ⟨b, e4, g4, o4⟩ := ex_sub d3 (9 : Int)
  have f4 : b = d3 - 9 := by omega
  have hA : AllHold (nodeMu 8 [] ([Value.int .i64 n0, .int .i64 n1] ++ Zw.ex d1 a d3 b)) (Zw.nA 1000 1002) := ⟨hold_op (.atom _ _ rfl) (.int _ _) (o1 .i64) (.atom _ _ rfl), hold_op (.atom _ _ rfl) (.int _ _) o2 (.atom _ _ rfl), trivial⟩
  have hB : AllHold (nodeMu 8 [] ([Value.int .i64 n0, .int .i64 n1] ++ Zw.ex d1 a d3 b)) (Zw.nA 1001 1012) := ⟨hold_op (.atom _ _ rfl) (.int _ _) (o3 .i64) (.atom _ _ rfl), hold_op (.atom _ _ rfl) (.int _ _) o4 (.atom _ _ rfl), trivial⟩
  have fin : ∀ x y t, AllHold (nodeMu 8 [] ([Value.int .i64 n0, .int .i64 n1] ++ Zw.ex d1 a d3 b)) (Zw.k 1002 x) → AllHold (nodeMu 8 [] ([Value.int .i64 n0, .int .i64 n1] ++ Zw.ex d1 a d3 b)) (Zw.k 1012 y) →
      AllHold (nodeMu 8 [] ([Value.int .i64 n0, .int .i64 n1] ++ Zw.ex d1 a d3 b)) t → Zw.fin (Zw.T x y t) = true → NdGood Tryz.prog Tryz.f3 8 Tryz.H0 W Zw.pS Zw.d0 [(.int .i64 n0), (.int .i64 n1)] := fun x y t h1 h2 h3 hr =>
    Zw.fx htab (Zw.T x y t) (Zw.ex d1 a d3 b) [] (fun sy => Zw.kS Zw.mS sy) (Zw.ah_app hA (Zw.ah_app hB (Zw.ah_app h1 (Zw.ah_app h2 h3)))) Zw.i0 rfl rfl rowsHold_nil hr
  have lo : ∀ {q : Int}, q < 1 → intOpA .lss .i64 q 1 = some (.bool true) ∧ intOpA .geq .i64 q 1 = some (.bool false) := fun h => ⟨op_lss_t h, op_geq_f h⟩
  have hi : ∀ {q : Int}, 99999 < q → intOpA .lss .i64 q 1 = some (.bool false) ∧ intOpA .gtr .i64 q 99999 = some (.bool true) ∧ intOpA .geq .i64 q 1 = some (.bool true) ∧ intOpA .leq .i64 q 99999 = some (.bool false) := fun h => ⟨op_lss_f (by omega), op_gtr_t h, op_geq_t (by omega), op_leq_f h⟩
  -- what is known of the one, of the other
  have hb : ∃ y, (y = 0 ∨ y = 1 ∨ (y = 2 ∧ 1 ≤ b ∧ b ≤ 99999)) ∧ AllHold (nodeMu 8 [] ([Value.int .i64 n0, .int .i64 n1] ++ Zw.ex d1 a d3 b)) (Zw.k 1012 y) := by
    by_cases q1 : b < 1
    · exact ⟨0, .inl rfl, hold_bool (.atom _ _ rfl) (.int _ _) (lo q1).1, hold_bool (.atom _ _ rfl) (.int _ _) (lo q1).2, trivial⟩
    by_cases q2 : 99999 < b
    · obtain ⟨i1, i2, i3, i4⟩ := hi q2
      exact ⟨1, .inr (.inl rfl), hold_bool (.atom _ _ rfl) (.int _ _) i1, hold_bool (.atom _ _ rfl) (.int _ _) i2, hold_bool (.atom _ _ rfl) (.int _ _) i3, hold_bool (.atom _ _ rfl) (.int _ _) i4, trivial⟩
    · have hbn : b = ((b.toNat : Nat) : Int) := by omega
      exact ⟨2, .inr (.inr ⟨rfl, by omega, by omega⟩), Zw.nOk_hold (u := b.toNat) (by omega) (by omega) (show some (Value.int .i64 b) = _ by rw [← hbn]) rfl rfl rfl rfl rfl rfl⟩
  obtain ⟨y, hy, hk⟩ := hb
  by_cases q1 : a < 1
  · refine fin 0 y [] ⟨hold_bool (.atom _ _ rfl) (.int _ _) (lo q1).1, hold_bool (.atom _ _ rfl) (.int _ _) (lo q1).2, trivial⟩ hk trivial ?_
    rcases hy with rfl | rfl | ⟨rfl, _⟩
    · exact Zw.r00
    · exact Zw.r01
    · exact Zw.r02
  by_cases q2 : 99999 < a
  · obtain ⟨i1, i2, i3, i4⟩ := hi q2
    refine fin 1 y [] ⟨hold_bool (.atom _ _ rfl) (.int _ _) i1, hold_bool (.atom _ _ rfl) (.int _ _) i2, hold_bool (.atom _ _ rfl) (.int _ _) i3, hold_bool (.atom _ _ rfl) (.int _ _) i4, trivial⟩ hk trivial ?_
    rcases hy with rfl | rfl | ⟨rfl, _⟩
    · exact Zw.r10
    · exact Zw.r11
    · exact Zw.r12
  have han : a = ((a.toNat : Nat) : Int) := by omega
  have ha : AllHold (nodeMu 8 [] ([Value.int .i64 n0, .int .i64 n1] ++ Zw.ex d1 a d3 b)) (Zw.k 1002 2) :=
    Zw.nOk_hold (u := a.toNat) (by omega) (by omega) (show some (Value.int .i64 a) = _ by rw [← han]) rfl rfl rfl rfl rfl rfl
  have pe : Zs.padL 5 a.toNat = [Zw.c (a.toNat / 10 / 10 / 10 / 10), Zw.c (a.toNat / 10 / 10 / 10), Zw.c (a.toNat / 10 / 10), Zw.c (a.toNat / 10), Zw.c a.toNat] := rfl
  have hrf : AllHold (nodeMu 8 [] ([Value.int .i64 n0, .int .i64 n1] ++ Zw.ex d1 a d3 b)) Zw.rf := by
    refine Zw.ah_app (Zw.dg_hold (u := a.toNat) (l := []) (show some (Value.int .i64 a) = _ by rw [← han]) (.str _) (by simp) (by omega) rfl rfl rfl rfl rfl rfl) (Zw.ah_app (Zw.dg_hold (u := a.toNat / 10) (l := [Zw.c a.toNat]) rfl (.atom _ _ rfl) (by simp) (by omega) rfl rfl rfl rfl rfl rfl) (Zw.ah_app (Zw.dg_hold (u := a.toNat / 10 / 10) (l := [Zw.c (a.toNat / 10), Zw.c a.toNat]) rfl (.atom _ _ rfl) (by simp) (by omega) rfl rfl rfl rfl rfl rfl) (Zw.ah_app (Zw.dg_hold (u := a.toNat / 10 / 10 / 10) (l := [Zw.c (a.toNat / 10 / 10), Zw.c (a.toNat / 10), Zw.c a.toNat]) rfl (.atom _ _ rfl) (by simp) (by omega) rfl rfl rfl rfl rfl rfl) (Zw.ah_app (Zw.dg_hold (u := a.toNat / 10 / 10 / 10 / 10) (l := [Zw.c (a.toNat / 10 / 10 / 10), Zw.c (a.toNat / 10 / 10), Zw.c (a.toNat / 10), Zw.c a.toNat]) rfl (.atom _ _ rfl) (by simp) (by omega) rfl rfl rfl rfl rfl rfl) ?_))))
    exact ⟨Zw.hold_s (.str (Zs.ba [99])) (.atom _ _ rfl) (Zs.add_ok (c := 99 :: Zs.padL 5 a.toNat) rfl (by simp [Zs.padL_len])) (.atom _ _ rfl), Zw.hold_s (.atom _ _ rfl) (.atom _ _ rfl) (Zs.neq_ok (a := 99 :: Zs.padL 5 a.toNat) (by simp)) (.bool false), trivial⟩
  rcases hy with rfl | rfl | ⟨rfl, b1, b2⟩
  · exact fin 2 0 Zw.rf ha hk hrf Zw.r20
  · exact fin 2 1 Zw.rf ha hk hrf Zw.r21
  have hbn : b = ((b.toNat : Nat) : Int) := by omega
  have cmp : ∀ {p q : Bool}, Op.bytesLess (Zs.padL 5 a.toNat) (Zs.padL 5 b.toNat) = p → (Zs.padL 5 a.toNat == Zs.padL 5 b.toNat) = q → decide (a < b) = p → (a == b) = q → AllHold (nodeMu 8 [] ([Value.int .i64 n0, .int .i64 n1] ++ Zw.ex d1 a d3 b)) (Zw.cmp p q) := by
    intro p q h1 h2 h3 h4
    exact ⟨Zw.hold_s (.atom _ _ rfl) (.atom _ _ rfl) (Zs.lss_ok (a := 99 :: Zs.padL 5 a.toNat) (b := 99 :: Zs.padL 5 b.toNat) ((Zs.bl_pre [99] _ _).trans h1)) (.bool _), Zw.hold_s (.atom _ _ rfl) (.atom _ _ rfl) (Zs.eql_ok (a := 99 :: Zs.padL 5 a.toNat) (b := 99 :: Zs.padL 5 b.toNat) (by rw [← h2]; simp)) (.bool _),
      hold_bool (.atom _ _ rfl) (.atom _ _ rfl) (by simp only [intOpA]; rw [h3]), hold_bool (.atom _ _ rfl) (.atom _ _ rfl) (by simp only [intOpA]; rw [h4]), trivial⟩
  rcases Int.lt_trichotomy a b with h | h | h
  · have hl := Zs.bl_pad 5 (u := a.toNat) (v := b.toNat) (by omega) (by omega)
    refine fin 2 2 (Zw.rf ++ Zw.cmp true false) ha hk (Zw.ah_app hrf (cmp hl ?_ (by simp [h]) (by simp; omega))) Zw.r220
    simp only [beq_eq_false_iff_ne]
    intro e; rw [e, Zs.bl_self] at hl; cases hl
  · subst h
    exact fin 2 2 (Zw.rf ++ Zw.cmp false true) ha hk (Zw.ah_app hrf (cmp (Zs.bl_self _) (by simp) (by simp) (by simp))) Zw.r221
  · have hl := Zs.bl_pad 5 (u := b.toNat) (v := a.toNat) (by omega) (by omega)
    refine fin 2 2 (Zw.rf ++ Zw.cmp false false) ha hk (Zw.ah_app hrf (cmp (Zs.bl_asym hl) ?_ (by simp; omega) (by simp; omega))) Zw.r222
    simp only [beq_eq_false_iff_ne]
    intro e; rw [e, Zs.bl_self] at hl; cases hl
end Go.Proofs
