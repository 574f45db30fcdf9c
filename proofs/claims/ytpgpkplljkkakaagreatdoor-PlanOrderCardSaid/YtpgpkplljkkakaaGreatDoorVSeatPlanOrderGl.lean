/- The law: what is known of names; hence from its start, for every input. No conditions. -/
import Derived.Test.YtpgpkplljkkakaaGreatDoorVSeatPlanOrderR1
set_option linter.all false
namespace Go.Proofs
open Go Go.Vsx Go.RowKit
set_option maxRecDepth 1000000
set_option maxHeartbeats 4000000
set_option linter.unusedVariables false
theorem Zw.fx {W : World} (htab : Lib.TabIs Tryz.prog W "internal/strconv.uint64pow10" .u64 Lib.pow10Tab) {pt : Pt} {d : Nd} {vals : List Value} {roc : List (List Value)} {j hk : Nat} (t : List SE) (ex : List Value) (rows : List Pl)
    (hok : ∀ sy, okPt (Tryz.Es Zw.mS sy) 8 pt = true) (hold : AllHold (nodeMu 8 rows (vals ++ ex)) t)
    (hid : d.sub 8 roc (idl 8 d.objs) (idA hk) (d.st 8 []) = true) (hlen : hk = vals.length) (hone : (vals ++ ex).all (·.oneCell') = true) (hrow : RowsHold W (nodeMu 8 rows (vals ++ ex)) rows roc)
    (hrun : leafFin (Tryz.Es Zw.mS (syOf t)) Tryz.f4 (fK (Tryz.Es Zw.mS (syOf t)) 100000 100000 pt (d.st 8 roc) j) = true) : NdGood Tryz.prog Tryz.f4 8 Tryz.H0 W pt d vals :=
  NdGood.fin (E := Tryz.Es Zw.mS (syOf t)) (extras := ex) (rows := rows) (by omega) (Zw.rightS (syOf t) _ W htab (symOk_of rfl hold)) (hok _) hid hlen hone hrow hrun
/-! strings of digits -/
def Zs.padL : Nat → Nat → List UInt8
  | 0, _ => []
  | k + 1, n => Zs.padL k (n / 10) ++ [UInt8.ofNat (48 + n % 10)]
theorem Zs.padL_len : ∀ k n, (Zs.padL k n).length = k
  | 0, _ => rfl
  | k + 1, n => by rw [Zs.padL, List.length_append, Zs.padL_len k]; rfl
theorem Zs.padL_zero : ∀ k, Zs.padL k 0 = Lib.repeatL [48] k
  | 0 => rfl
  | k + 1 => by
    rw [Zs.padL, Zs.padL_zero k]
    have : ∀ k, Lib.repeatL [(48 : UInt8)] k ++ [48] = 48 :: Lib.repeatL [48] k := by
      intro k
      induction k with
      | zero => rfl
      | succ k ih => simp only [Lib.repeatL, List.cons_append, List.nil_append, ih]
    exact this k
theorem Zs.rep_len (k : Nat) : (Lib.repeatL [(48 : UInt8)] k).length = k := by rw [Lib.repeatL_length]; simp
theorem Zs.pad_dec : ∀ k n, 1 ≤ k → n < 10 ^ k → 1 ≤ (Lib.decDigits n).length ∧ (Lib.decDigits n).length ≤ k ∧ Lib.repeatL [48] (k - (Lib.decDigits n).length) ++ Lib.decDigits n = Zs.padL k n
  | 0, _, h, _ => by omega
  | k + 1, n, _, h => by
    by_cases hn : n < 10
    · have e : Lib.decDigits n = [UInt8.ofNat (48 + n)] := by rw [Lib.decDigits, dif_pos hn]
      rw [e]
      refine ⟨by simp, by simp, ?_⟩
      rw [Zs.padL, show n / 10 = 0 by omega, show n % 10 = n by omega, Zs.padL_zero]
      rfl
    · have e : Lib.decDigits n = Lib.decDigits (n / 10) ++ [UInt8.ofNat (48 + n % 10)] := by rw [Lib.decDigits, dif_neg hn]
      have hk : 1 ≤ k := by
        cases k with
        | zero => simp at h; omega
        | succ k => omega
      obtain ⟨h1, h2, h3⟩ := Zs.pad_dec k (n / 10) hk (by rw [Nat.pow_succ] at h; omega)
      rw [e]
      simp only [List.length_append, List.length_cons, List.length_nil]
      refine ⟨by omega, by omega, ?_⟩
      rw [show k + 1 - ((Lib.decDigits (n / 10)).length + (0 + 1)) = k - (Lib.decDigits (n / 10)).length by omega, ← List.append_assoc, h3, Zs.padL]
theorem Zs.itoa_nat (n : Nat) : Lib.itoa (n : Int) = Lib.decDigits n := by
  unfold Lib.itoa
  rw [if_neg (by omega), Int.toNat_natCast]
theorem Zs.bl_pre : ∀ (p x y : List UInt8), Op.bytesLess (p ++ x) (p ++ y) = Op.bytesLess x y
  | [], _, _ => rfl
  | a :: p, x, y => by
    simp only [List.cons_append, Op.bytesLess, Zs.bl_pre p x y]
    simp
theorem Zs.bl_lt : ∀ {x y : List UInt8} (r r' : List UInt8), x.length = y.length → Op.bytesLess x y = true → Op.bytesLess (x ++ r) (y ++ r') = true
  | [], [], _, _, _, h => by simp [Op.bytesLess] at h
  | [], _ :: _, _, _, h, _ => by simp at h
  | _ :: _, [], _, _, h, _ => by simp at h
  | a :: x, b :: y, r, r', h, k => by
    simp only [List.cons_append, Op.bytesLess, Bool.or_eq_true, Bool.and_eq_true] at k ⊢
    rcases k with k | ⟨k1, k2⟩
    · exact .inl k
    · exact .inr ⟨k1, Zs.bl_lt r r' (by simpa using h) k2⟩
theorem Zs.bl_self : ∀ x : List UInt8, Op.bytesLess x x = false
  | [] => rfl
  | a :: x => by simp [Op.bytesLess, Zs.bl_self x]
theorem Zs.bl_asym : ∀ {x y : List UInt8}, Op.bytesLess x y = true → Op.bytesLess y x = false
  | [], [], h => by simp [Op.bytesLess] at h
  | [], _ :: _, _ => by simp [Op.bytesLess]
  | _ :: _, [], h => by simp [Op.bytesLess] at h
  | a :: x, b :: y, h => by
    simp only [Op.bytesLess, Bool.or_eq_true, Bool.and_eq_true, decide_eq_true_eq, beq_iff_eq] at h
    simp only [Op.bytesLess, Bool.or_eq_false_iff, Bool.and_eq_false_iff, decide_eq_false_iff_not]
    rcases h with h | ⟨rfl, h⟩
    · refine ⟨fun k => ?_, .inl ?_⟩
      · exact absurd (UInt8.lt_trans h k) (UInt8.lt_irrefl _)
      · simp only [beq_eq_false_iff_ne]; rintro rfl; exact UInt8.lt_irrefl _ h
    · exact ⟨UInt8.lt_irrefl _, .inr (Zs.bl_asym h)⟩
theorem Zs.dig_lt {a b : Nat} (ha : a < 10) (hb : b < 10) : (UInt8.ofNat (48 + a) < UInt8.ofNat (48 + b)) ↔ a < b := by
  rw [UInt8.lt_iff_toNat_lt, UInt8.toNat_ofNat', UInt8.toNat_ofNat']; omega
theorem Zs.bl_pad : ∀ k {u v : Nat}, u < v → v < 10 ^ k → Op.bytesLess (Zs.padL k u) (Zs.padL k v) = true
  | 0, u, v, h, k => by simp at k; omega
  | k + 1, u, v, h, hv => by
    simp only [Zs.padL]
    rw [Nat.pow_succ] at hv
    by_cases e : u / 10 = v / 10
    · rw [e, Zs.bl_pre]
      have : UInt8.ofNat (48 + u % 10) < UInt8.ofNat (48 + v % 10) := (Zs.dig_lt (by omega) (by omega)).2 (by omega)
      show (decide _ || _) = true
      rw [decide_eq_true this]; rfl
    · exact Zs.bl_lt _ _ (by rw [Zs.padL_len, Zs.padL_len]) (Zs.bl_pad k (by omega) (by omega))
theorem Zs.pad_inj {k u v : Nat} (hu : u < 10 ^ k) (hv : v < 10 ^ k) (h : Zs.padL k u = Zs.padL k v) : u = v := by
  rcases Nat.lt_trichotomy u v with q | q | q
  · have := Zs.bl_pad k q hv; rw [h, Zs.bl_self] at this; cases this
  · exact q
  · have := Zs.bl_pad k q hu; rw [h, Zs.bl_self] at this; cases this
def Zs.ba (l : List UInt8) : ByteArray := ⟨l.toArray⟩
theorem Zs.ba_toList (l : List UInt8) : (Zs.ba l).toList = l := by unfold Zs.ba; rw [ByteArray.toList_mk]
theorem Zs.ba_app (a b : List UInt8) : Zs.ba a ++ Zs.ba b = Zs.ba (a ++ b) := by
  apply ByteArray.ext
  simp [Zs.ba]
theorem Zs.ba_size (l : List UInt8) : (Zs.ba l).size = l.length := List.size_toArray
theorem Zs.add_ok {a b c : List UInt8} (h : a ++ b = c) (hl : c.length < 1000) : strOpA .add (Zs.ba a) (Zs.ba b) = some (.string (Zs.ba c)) := by
  have h2 := congrArg List.length h
  rw [List.length_append] at h2
  simp only [strOpA]
  rw [if_pos (by rw [Zs.ba_size, Zs.ba_size]; omega), Zs.ba_app, h]
theorem Zs.lss_ok {a b : List UInt8} {q : Bool} (h : Op.bytesLess a b = q) : strOpA .lss (Zs.ba a) (Zs.ba b) = some (.bool q) := by
  simp only [strOpA, Zs.ba_toList, h]
theorem Zs.eql_ok {a b : List UInt8} {q : Bool} (h : (a == b) = q) : strOpA .eql (Zs.ba a) (Zs.ba b) = some (.bool q) := by
  simp only [strOpA, Zs.ba_toList, h]
theorem Zs.neq_ok {a b : List UInt8} {q : Bool} (h : (!(a == b)) = q) : strOpA .neq (Zs.ba a) (Zs.ba b) = some (.bool q) := by
  simp only [strOpA, Zs.ba_toList, h]
def Zw.vM (d1 d2 : Int) (r : Nat) : List Value := [.int .i64 d1, .int .i64 d2, .int .i64 (r : Int)]
def Zw.vM1 (d1 d2 : Int) (r : Nat) : List Value := [.int .i64 d1, .int .i64 d2, .int .i64 (r : Int), .int .i64 ((r + 1 : Nat) : Int)]
def Zw.vS (k u : Nat) : List Value := [.string (Zs.ba (Lib.decDigits u)), .int .i64 ((Lib.decDigits u).length : Int), .int .i64 ((k - (Lib.decDigits u).length : Nat) : Int), .string (Zs.ba (Lib.repeatL [48] (k - (Lib.decDigits u).length))), .string (Zs.ba (Zs.padL k u))]
def Zw.s (l : List UInt8) : Value := .string (Zs.ba l)
def Zw.x1 (p : List UInt8) (R : Nat) : List UInt8 := p ++ Zs.padL 4 R
def Zw.x2 (p : List UInt8) (R : Nat) : List UInt8 := Zw.x1 p R ++ [46]
def Zw.x3 (p : List UInt8) (R A : Nat) : List UInt8 := Zw.x2 p R ++ Zs.padL 5 A
def Zw.x4 (p : List UInt8) (R A : Nat) : List UInt8 := Zw.x3 p R A ++ [46]
def Zw.x5 (p : List UInt8) (R A B : Nat) : List UInt8 := Zw.x4 p R A ++ Zs.padL 5 B
def Zw.o5 : List UInt8 := [48, 48, 48, 48, 49]
def Zw.z3 (p : List UInt8) (R : Nat) : List UInt8 := Zw.x2 p R ++ Zw.o5
def Zw.z4 (p : List UInt8) (R : Nat) : List UInt8 := Zw.z3 p R ++ [46]
def Zw.z5 (p : List UInt8) (R : Nat) : List UInt8 := Zw.z4 p R ++ Zw.o5
def Zw.t1 : List UInt8 := [116, 49, 46]
def Zw.b1 : List UInt8 := [98, 49, 46]
def Zw.t0 : List UInt8 := [116, 48, 46]
def Zw.vX (R A B C D : Nat) : List Value := [Zw.s (Zw.x1 Zw.t1 R), Zw.s (Zw.x2 Zw.t1 R), Zw.s (Zw.x3 Zw.t1 R A), Zw.s (Zw.x4 Zw.t1 R A), Zw.s (Zw.x5 Zw.t1 R A (A + B)), Zw.s (Zw.x3 Zw.t1 R C), Zw.s (Zw.x4 Zw.t1 R C), Zw.s (Zw.x5 Zw.t1 R C (C + D)),
  Zw.s (Zw.x1 Zw.t1 (R + 1)), Zw.s (Zw.x2 Zw.t1 (R + 1)), Zw.s (Zw.z3 Zw.t1 (R + 1)), Zw.s (Zw.z4 Zw.t1 (R + 1)), Zw.s (Zw.z5 Zw.t1 (R + 1)),
  Zw.s (Zw.x1 Zw.b1 R), Zw.s (Zw.x2 Zw.b1 R), Zw.s (Zw.x3 Zw.b1 R A), Zw.s (Zw.x1 Zw.b1 (R + 1)), Zw.s (Zw.x2 Zw.b1 (R + 1)), Zw.s (Zw.z3 Zw.b1 (R + 1)),
  Zw.s (Zw.x1 Zw.t0 R), Zw.s (Zw.x2 Zw.t0 R), Zw.s (Zw.x3 Zw.t0 R A), Zw.s (Zw.x4 Zw.t0 R A), Zw.s (Zw.x5 Zw.t0 R A (A + B))]
def Zw.ex (r1 r2 a1 a2 b1 b2 c1 c2 d1 d2 : Int) (r a b c d : Nat) : List Value := Zw.vM1 r1 r2 r ++ (Zw.vM1 a1 a2 a ++ (Zw.vM b1 b2 b ++ (Zw.vM1 c1 c2 c ++ (Zw.vM d1 d2 d ++
  ([.int .i64 ((a + 1 + b : Nat) : Int), .int .i64 ((c + 1 + d : Nat) : Int), .int .i64 ((r + 1 + 1 : Nat) : Int)] ++ (Zw.vS 4 (r + 1) ++ (Zw.vS 5 (a + 1) ++ (Zw.vS 5 (a + 1 + b) ++ (Zw.vS 5 (c + 1) ++ (Zw.vS 5 (c + 1 + d) ++ (Zw.vS 4 (r + 1 + 1) ++ Zw.vX (r + 1) (a + 1) b (c + 1) d)))))))))))
theorem Zw.ah_app {m : Mu} {b : List SE} : ∀ {a : List SE}, AllHold m a → AllHold m b → AllHold m (a ++ b)
  | [], _, h2 => h2
  | _ :: _, h1, h2 => ⟨h1.1, Zw.ah_app h1.2 h2⟩
theorem Zw.hold_s {m : Mu} {op : BinOp} {x y r : Value} {s t : ByteArray} {r' : Value} (hx : VR m x (.string s)) (hy : VR m y (.string t)) (h : strOpA op s t = some r') (hr : VR m r r') : SymHolds m (.sbin op) x y r := ⟨s, t, r', hx, hy, h, hr⟩
theorem Zw.ad_hold {m : Mu} {x y : Value} {r : Nat} {a b : List UInt8} (hx : VR m x (.string (Zs.ba a))) (hy : VR m y (.string (Zs.ba b))) (hr : m.at_ r = some (.string (Zs.ba (a ++ b)))) (hl : (a ++ b).length < 1000) : SymHolds m (Zw.ad x y r).op (Zw.ad x y r).x (Zw.ad x y r).y (Zw.ad x y r).r :=
  Zw.hold_s hx hy (Zs.add_ok rfl hl) (.atom _ _ hr)
theorem Zw.md_ex (n : Int) (k : Int) (h1 : 0 < k) (h2 : k < 100000) : ∃ d1 d2 : Int, ∃ r : Nat, (r : Int) < k ∧ intOpA .rem .i64 n k = some (.int .i64 d1) ∧ intOpA .add .i64 d1 k = some (.int .i64 d2) ∧ intOpA .rem .i64 d2 k = some (.int .i64 (r : Int)) := by
  have h := tmod_rng (a := n) (c := k) h1
  refine ⟨n.tmod k, n.tmod k + k, ((n.tmod k + k) % k).toNat, ?_, ?_, ?_, ?_⟩
  · have := Int.emod_lt_of_pos (n.tmod k + k) h1
    have := Int.emod_nonneg (n.tmod k + k) (b := k) (by omega)
    omega
  · simp only [intOpA]; rw [if_neg (by omega)]
  · exact op_add (by omega) (by omega) rfl
  · simp only [intOpA]; rw [if_neg (by omega), Int.tmod_eq_emod_of_nonneg (by omega)]
    have := Int.emod_nonneg (n.tmod k + k) (b := k) (by omega)
    rw [Int.toNat_of_nonneg this]
theorem Zw.num_hold {m : Mu} {z s k u : Nat} (hk : 1 ≤ k) (hk2 : k ≤ 5) (hu : u < 10 ^ k) (hz : m.at_ z = some (.int .i64 (u : Int))) (k2 : m.at_ s = some (.string (Zs.ba (Lib.decDigits u)))) (k3 : m.at_ (s + 1) = some (.int .i64 ((Lib.decDigits u).length : Int)))
    (k4 : m.at_ (s + 2) = some (.int .i64 ((k - (Lib.decDigits u).length : Nat) : Int))) (k5 : m.at_ (s + 3) = some (.string (Zs.ba (Lib.repeatL [48] (k - (Lib.decDigits u).length))))) (k7 : m.at_ (s + 4) = some (.string (Zs.ba (Zs.padL k u)))) : AllHold m (Zw.num z s (k : Int)) := by
  obtain ⟨l1, l2, l3⟩ := Zs.pad_dec k u hk hu
  have hu5 : u < 100000 := Nat.lt_of_lt_of_le hu (Nat.pow_le_pow_right (by omega) hk2)
  refine ⟨⟨(u : Int), .atom _ _ hz, by omega, by omega, by rw [Zs.itoa_nat]; exact .atom _ _ k2⟩, ⟨_, .atom _ _ k2, by rw [Zs.ba_size]; exact .atom _ _ k3⟩, hold_op (.int _ _) (.atom _ _ k3) (op_sub (by omega) (by omega) (by omega)) (.atom _ _ k4),
    hold_mx_l (.atom _ _ k4) (.int _ _) (by omega), ⟨Zs.ba [48], k - (Lib.decDigits u).length, .str _, .atom _ _ k4, by omega, by decide, .atom _ _ k5⟩, Zw.hold_s (.atom _ _ k5) (.atom _ _ k2) (Zs.add_ok l3 (by rw [Zs.padL_len]; omega)) (.atom _ _ k7), trivial⟩
theorem Zw.lim_hold {m : Mu} {f u : Nat} {a b : Nat} (h1 : 1 ≤ a) (h2 : a ≤ b) (h3 : b ≤ 10000) (hf : m.at_ f = some (.int .i64 (a : Int))) (hu : m.at_ u = some (.int .i64 (b : Int))) : AllHold m (Zw.lim f u) :=
  ⟨hold_bool (.atom _ _ hf) (.int _ _) (op_lss_f (by omega)), hold_bool (.atom _ _ hu) (.atom _ _ hf) (op_lss_f (by omega)), hold_bool (.atom _ _ hu) (.int _ _) (op_gtr_f (by omega)), trivial⟩
theorem Zw.run_hold {m : Mu} {r a : Nat} (h1 : 1 ≤ a) (h2 : a ≤ 9999) (hf : m.at_ r = some (.int .i64 (a : Int))) : AllHold m (Zw.run r) :=
  ⟨hold_bool (.atom _ _ hf) (.int _ _) (op_geq_t (by omega)), hold_bool (.atom _ _ hf) (.int _ _) (op_leq_t (by omega)), trivial⟩
theorem Zw.ln_hold {m : Mu} {s n : Nat} {l : List UInt8} (hs : m.at_ s = some (.string (Zs.ba l))) (h : l.length = n) : SymHolds m (Zw.ln s n).op (Zw.ln s n).x (Zw.ln s n).y (Zw.ln s n).r :=
  ⟨Zs.ba l, .atom _ _ hs, by rw [Zs.ba_size, h]; exact .int _ _⟩
theorem Zw.less_hold {m : Mu} {x y : Nat} {a b : List UInt8} (hx : m.at_ x = some (.string (Zs.ba a))) (hy : m.at_ y = some (.string (Zs.ba b))) (h : Op.bytesLess a b = true) : SymHolds m (Zw.less x y).op (Zw.less x y).x (Zw.less x y).y (Zw.less x y).r :=
  Zw.hold_s (.atom _ _ hx) (.atom _ _ hy) (Zs.lss_ok h) (.bool true)
theorem Zw.l1 (p : List UInt8) (hp : p.length = 3) (R : Nat) : (Zw.x1 p R).length = 7 := by unfold Zw.x1; rw [List.length_append, Zs.padL_len, hp]
theorem Zw.l2 (p : List UInt8) (hp : p.length = 3) (R : Nat) : (Zw.x2 p R).length = 8 := by unfold Zw.x2; rw [List.length_append, Zw.l1 p hp]; rfl
theorem Zw.l3 (p : List UInt8) (hp : p.length = 3) (R A : Nat) : (Zw.x3 p R A).length = 13 := by unfold Zw.x3; rw [List.length_append, Zw.l2 p hp, Zs.padL_len]
theorem Zw.l4 (p : List UInt8) (hp : p.length = 3) (R A : Nat) : (Zw.x4 p R A).length = 14 := by unfold Zw.x4; rw [List.length_append, Zw.l3 p hp]; rfl
theorem Zw.l5 (p : List UInt8) (hp : p.length = 3) (R A B : Nat) : (Zw.x5 p R A B).length = 19 := by unfold Zw.x5; rw [List.length_append, Zw.l4 p hp, Zs.padL_len]
theorem Zw.k3 (p : List UInt8) (hp : p.length = 3) (R : Nat) : (Zw.z3 p R).length = 13 := by unfold Zw.z3; rw [List.length_append, Zw.l2 p hp]; rfl
theorem Zw.k4 (p : List UInt8) (hp : p.length = 3) (R : Nat) : (Zw.z4 p R).length = 14 := by unfold Zw.z4; rw [List.length_append, Zw.k3 p hp]; rfl
theorem Zw.k5 (p : List UInt8) (hp : p.length = 3) (R : Nat) : (Zw.z5 p R).length = 19 := by unfold Zw.z5; rw [List.length_append, Zw.k4 p hp]; rfl
theorem Zw.run_lt (p : List UInt8) {R : Nat} (hR : R + 1 < 10000) (x y : List UInt8) : Op.bytesLess (p ++ (Zs.padL 4 R ++ x)) (p ++ (Zs.padL 4 (R + 1) ++ y)) = true := by
  rw [Zs.bl_pre]
  exact Zs.bl_lt _ _ (by rw [Zs.padL_len, Zs.padL_len]) (Zs.bl_pad 4 (by omega) (by omega))

theorem Zw.n0 {W : World} {n0 n1 n2 n3 n4 : Int} (htab : Lib.TabIs Tryz.prog W "internal/strconv.uint64pow10" .u64 Lib.pow10Tab) : NdGood Tryz.prog Tryz.f4 8 Tryz.H0 W Zw.pS Zw.d0 [(.int .i64 n0), (.int .i64 n1), (.int .i64 n2), (.int .i64 n3), (.int .i64 n4)] := by
  obtain ⟨r1, r2, r, hr, er1, er2, er3⟩ := Zw.md_ex n0 9000 (by omega) (by omega)
  obtain ⟨a1, a2, a, ha, ea1, ea2, ea3⟩ := Zw.md_ex n1 9000 (by omega) (by omega)
  obtain ⟨b1, b2, b, hb, eb1, eb2, eb3⟩ := Zw.md_ex n2 900 (by omega) (by omega)
  obtain ⟨c1, c2, c, hc, ec1, ec2, ec3⟩ := Zw.md_ex n3 9000 (by omega) (by omega)
  obtain ⟨d1, d2, d, hd, ed1, ed2, ed3⟩ := Zw.md_ex n4 900 (by omega) (by omega)
  obtain ⟨vs, hvs⟩ : ∃ vs, vs = [Value.int .i64 n0, .int .i64 n1, .int .i64 n2, .int .i64 n3, .int .i64 n4] ++ Zw.ex r1 r2 a1 a2 b1 b2 c1 c2 d1 d2 r a b c d := ⟨_, rfl⟩
  have at_ : ∀ i v, vs[i]? = some v → (nodeMu 8 [] vs).at_ (1000 + i) = some v := by
    intro i v h
    show atomsOf vs (1000 + i) = _
    unfold atomsOf
    rw [if_pos (by omega), Nat.add_sub_cancel_left, h]
  have in1 : ∀ {s : Nat} {u : Nat}, u < 100000 → (nodeMu 8 [] vs).at_ s = some (.int .i64 (u : Int)) → (nodeMu 8 [] vs).at_ (s + 1) = some (.int .i64 ((u + 1 : Nat) : Int)) → SymHolds (nodeMu 8 [] vs) (Zw.in1 s).op (Zw.in1 s).x (Zw.in1 s).y (Zw.in1 s).r := fun hu h1 h2 =>
    hold_op (.int _ _) (.atom _ _ h1) (op_add (by omega) (by omega) (by omega)) (.atom _ _ h2)
  have md : ∀ {z s : Nat} {n e1 e2 k : Int} {q : Nat}, intOpA .rem .i64 n k = some (.int .i64 e1) → intOpA .add .i64 e1 k = some (.int .i64 e2) → intOpA .rem .i64 e2 k = some (.int .i64 (q : Int)) → (nodeMu 8 [] vs).at_ z = some (.int .i64 n) → (nodeMu 8 [] vs).at_ s = some (.int .i64 e1) → (nodeMu 8 [] vs).at_ (s + 1) = some (.int .i64 e2) → (nodeMu 8 [] vs).at_ (s + 2) = some (.int .i64 (q : Int)) → AllHold (nodeMu 8 [] vs) (Zw.md z s k) := fun o1 o2 o3 h0 h1 h2 h3 =>
    ⟨hold_op (.atom _ _ h0) (.int _ _) o1 (.atom _ _ h1), hold_op (.atom _ _ h1) (.int _ _) o2 (.atom _ _ h2), hold_op (.atom _ _ h2) (.int _ _) o3 (.atom _ _ h3), trivial⟩
  have g : ∀ i v, vs[i]? = some v → (nodeMu 8 [] vs).at_ (1000 + i) = some v := at_
  have aR := g 8 (.int .i64 ((r + 1 : Nat) : Int)) (by rw [hvs]; rfl)
  have aA := g 12 (.int .i64 ((a + 1 : Nat) : Int)) (by rw [hvs]; rfl)
  have aB := g 15 (.int .i64 (b : Int)) (by rw [hvs]; rfl)
  have aC := g 19 (.int .i64 ((c + 1 : Nat) : Int)) (by rw [hvs]; rfl)
  have aD := g 22 (.int .i64 (d : Int)) (by rw [hvs]; rfl)
  have aAB := g 23 (.int .i64 ((a + 1 + b : Nat) : Int)) (by rw [hvs]; rfl)
  have aCD := g 24 (.int .i64 ((c + 1 + d : Nat) : Int)) (by rw [hvs]; rfl)
  have aR1 := g 25 (.int .i64 ((r + 1 + 1 : Nat) : Int)) (by rw [hvs]; rfl)
  have h1 : AllHold (nodeMu 8 [] vs) Zw.A1 := by
    refine Zw.ah_app (md er1 er2 er3 (g 0 _ (by rw [hvs]; rfl)) (g 5 _ (by rw [hvs]; rfl)) (g 6 _ (by rw [hvs]; rfl)) (g 7 _ (by rw [hvs]; rfl))) ⟨in1 (by omega) (g 7 _ (by rw [hvs]; rfl)) aR, Zw.ah_app (md ea1 ea2 ea3 (g 1 _ (by rw [hvs]; rfl)) (g 9 _ (by rw [hvs]; rfl)) (g 10 _ (by rw [hvs]; rfl)) (g 11 _ (by rw [hvs]; rfl))) ⟨in1 (by omega) (g 11 _ (by rw [hvs]; rfl)) aA,
      Zw.ah_app (md eb1 eb2 eb3 (g 2 _ (by rw [hvs]; rfl)) (g 13 _ (by rw [hvs]; rfl)) (g 14 _ (by rw [hvs]; rfl)) aB) (Zw.ah_app (md ec1 ec2 ec3 (g 3 _ (by rw [hvs]; rfl)) (g 16 _ (by rw [hvs]; rfl)) (g 17 _ (by rw [hvs]; rfl)) (g 18 _ (by rw [hvs]; rfl))) ⟨in1 (by omega) (g 18 _ (by rw [hvs]; rfl)) aC,
      Zw.ah_app (md ed1 ed2 ed3 (g 4 _ (by rw [hvs]; rfl)) (g 20 _ (by rw [hvs]; rfl)) (g 21 _ (by rw [hvs]; rfl)) aD) ⟨?_, ?_, ?_, trivial⟩⟩)⟩⟩
    · exact hold_op (.atom _ _ aA) (.atom _ _ aB) (op_add (by omega) (by omega) (by omega)) (.atom _ _ aAB)
    · exact hold_op (.atom _ _ aC) (.atom _ _ aD) (op_add (by omega) (by omega) (by omega)) (.atom _ _ aCD)
    · exact hold_op (.atom _ _ aR) (.int _ _) (op_add (by omega) (by omega) (by omega)) (.atom _ _ aR1)
  have h2 : AllHold (nodeMu 8 [] vs) Zw.A2 := Zw.ah_app (Zw.run_hold (by omega) (by omega) aR) (Zw.ah_app (Zw.run_hold (by omega) (by omega) aR1) (Zw.ah_app (Zw.lim_hold (by omega) (by omega) (by omega) aA aAB) (Zw.ah_app (Zw.lim_hold (by omega) (by omega) (by omega) aC aCD) ⟨hold_bool (.atom _ _ aA) (.int _ _) (op_gtr_f (by omega)), trivial⟩)))
  have h3 : AllHold (nodeMu 8 [] vs) Zw.A3 := by
    refine Zw.ah_app (Zw.num_hold (k := 4) (by omega) (by omega) (by omega) aR ?_ ?_ ?_ ?_ ?_) (Zw.ah_app (Zw.num_hold (k := 5) (by omega) (by omega) (by omega) aA ?_ ?_ ?_ ?_ ?_) (Zw.ah_app (Zw.num_hold (k := 5) (by omega) (by omega) (by omega) aAB ?_ ?_ ?_ ?_ ?_) (Zw.ah_app (Zw.num_hold (k := 5) (by omega) (by omega) (by omega) aC ?_ ?_ ?_ ?_ ?_) (Zw.ah_app (Zw.num_hold (k := 5) (by omega) (by omega) (by omega) aCD ?_ ?_ ?_ ?_ ?_) (Zw.num_hold (k := 4) (by omega) (by omega) (by omega) aR1 ?_ ?_ ?_ ?_ ?_)))))
    all_goals (rw [hvs]; rfl)
  have e0 : Zw.t1.length = 3 := rfl
  have e1 : Zw.b1.length = 3 := rfl
  have e2 : Zw.t0.length = 3 := rfl
  have g1030 := g 30 (.string (Zs.ba (Zs.padL 4 (r + 1)))) (by rw [hvs]; rfl)
  have g1035 := g 35 (.string (Zs.ba (Zs.padL 5 (a + 1)))) (by rw [hvs]; rfl)
  have g1040 := g 40 (.string (Zs.ba (Zs.padL 5 (a + 1 + b)))) (by rw [hvs]; rfl)
  have g1045 := g 45 (.string (Zs.ba (Zs.padL 5 (c + 1)))) (by rw [hvs]; rfl)
  have g1050 := g 50 (.string (Zs.ba (Zs.padL 5 (c + 1 + d)))) (by rw [hvs]; rfl)
  have g1055 := g 55 (.string (Zs.ba (Zs.padL 4 (r + 1 + 1)))) (by rw [hvs]; rfl)
  have w0 := g 56 (.string (Zs.ba (Zw.x1 Zw.t1 (r + 1)))) (by rw [hvs]; rfl)
  have w1 := g 57 (.string (Zs.ba (Zw.x2 Zw.t1 (r + 1)))) (by rw [hvs]; rfl)
  have w2 := g 58 (.string (Zs.ba (Zw.x3 Zw.t1 (r + 1) (a + 1)))) (by rw [hvs]; rfl)
  have w3 := g 59 (.string (Zs.ba (Zw.x4 Zw.t1 (r + 1) (a + 1)))) (by rw [hvs]; rfl)
  have w4 := g 60 (.string (Zs.ba (Zw.x5 Zw.t1 (r + 1) (a + 1) (a + 1 + b)))) (by rw [hvs]; rfl)
  have w5 := g 61 (.string (Zs.ba (Zw.x3 Zw.t1 (r + 1) (c + 1)))) (by rw [hvs]; rfl)
  have w6 := g 62 (.string (Zs.ba (Zw.x4 Zw.t1 (r + 1) (c + 1)))) (by rw [hvs]; rfl)
  have w7 := g 63 (.string (Zs.ba (Zw.x5 Zw.t1 (r + 1) (c + 1) (c + 1 + d)))) (by rw [hvs]; rfl)
  have w8 := g 64 (.string (Zs.ba (Zw.x1 Zw.t1 (r + 1 + 1)))) (by rw [hvs]; rfl)
  have w9 := g 65 (.string (Zs.ba (Zw.x2 Zw.t1 (r + 1 + 1)))) (by rw [hvs]; rfl)
  have w10 := g 66 (.string (Zs.ba (Zw.z3 Zw.t1 (r + 1 + 1)))) (by rw [hvs]; rfl)
  have w11 := g 67 (.string (Zs.ba (Zw.z4 Zw.t1 (r + 1 + 1)))) (by rw [hvs]; rfl)
  have w12 := g 68 (.string (Zs.ba (Zw.z5 Zw.t1 (r + 1 + 1)))) (by rw [hvs]; rfl)
  have w13 := g 69 (.string (Zs.ba (Zw.x1 Zw.b1 (r + 1)))) (by rw [hvs]; rfl)
  have w14 := g 70 (.string (Zs.ba (Zw.x2 Zw.b1 (r + 1)))) (by rw [hvs]; rfl)
  have w15 := g 71 (.string (Zs.ba (Zw.x3 Zw.b1 (r + 1) (a + 1)))) (by rw [hvs]; rfl)
  have w16 := g 72 (.string (Zs.ba (Zw.x1 Zw.b1 (r + 1 + 1)))) (by rw [hvs]; rfl)
  have w17 := g 73 (.string (Zs.ba (Zw.x2 Zw.b1 (r + 1 + 1)))) (by rw [hvs]; rfl)
  have w18 := g 74 (.string (Zs.ba (Zw.z3 Zw.b1 (r + 1 + 1)))) (by rw [hvs]; rfl)
  have w19 := g 75 (.string (Zs.ba (Zw.x1 Zw.t0 (r + 1)))) (by rw [hvs]; rfl)
  have w20 := g 76 (.string (Zs.ba (Zw.x2 Zw.t0 (r + 1)))) (by rw [hvs]; rfl)
  have w21 := g 77 (.string (Zs.ba (Zw.x3 Zw.t0 (r + 1) (a + 1)))) (by rw [hvs]; rfl)
  have w22 := g 78 (.string (Zs.ba (Zw.x4 Zw.t0 (r + 1) (a + 1)))) (by rw [hvs]; rfl)
  have w23 := g 79 (.string (Zs.ba (Zw.x5 Zw.t0 (r + 1) (a + 1) (a + 1 + b)))) (by rw [hvs]; rfl)
  have lt : ∀ {l : List UInt8} {n : Nat}, l.length = n → n < 1000 → l.length < 1000 := fun h k => by rw [h]; exact k
  have h4 : AllHold (nodeMu 8 [] vs) Zw.A4 := ⟨Zw.ad_hold (.str (Zs.ba Zw.t1)) (.atom _ _ g1030) w0 (lt (Zw.l1 _ e0 _) (by omega)), Zw.ad_hold (.atom _ _ w0) (.str (Zs.ba [46])) w1 (lt (Zw.l2 _ e0 _) (by omega)), Zw.ad_hold (.atom _ _ w1) (.atom _ _ g1035) w2 (lt (Zw.l3 _ e0 _ _) (by omega)), Zw.ad_hold (.atom _ _ w2) (.str (Zs.ba [46])) w3 (lt (Zw.l4 _ e0 _ _) (by omega)), Zw.ad_hold (.atom _ _ w3) (.atom _ _ g1040) w4 (lt (Zw.l5 _ e0 _ _ _) (by omega)),
    Zw.ad_hold (.atom _ _ w1) (.atom _ _ g1045) w5 (lt (Zw.l3 _ e0 _ _) (by omega)), Zw.ad_hold (.atom _ _ w5) (.str (Zs.ba [46])) w6 (lt (Zw.l4 _ e0 _ _) (by omega)), Zw.ad_hold (.atom _ _ w6) (.atom _ _ g1050) w7 (lt (Zw.l5 _ e0 _ _ _) (by omega)),
    Zw.ad_hold (.str (Zs.ba Zw.t1)) (.atom _ _ g1055) w8 (lt (Zw.l1 _ e0 _) (by omega)), Zw.ad_hold (.atom _ _ w8) (.str (Zs.ba [46])) w9 (lt (Zw.l2 _ e0 _) (by omega)), Zw.ad_hold (.atom _ _ w9) (.str (Zs.ba Zw.o5)) w10 (lt (Zw.k3 _ e0 _) (by omega)), Zw.ad_hold (.atom _ _ w10) (.str (Zs.ba [46])) w11 (lt (Zw.k4 _ e0 _) (by omega)), Zw.ad_hold (.atom _ _ w11) (.str (Zs.ba Zw.o5)) w12 (lt (Zw.k5 _ e0 _) (by omega)),
    Zw.ad_hold (.str (Zs.ba Zw.b1)) (.atom _ _ g1030) w13 (lt (Zw.l1 _ e1 _) (by omega)), Zw.ad_hold (.atom _ _ w13) (.str (Zs.ba [46])) w14 (lt (Zw.l2 _ e1 _) (by omega)), Zw.ad_hold (.atom _ _ w14) (.atom _ _ g1035) w15 (lt (Zw.l3 _ e1 _ _) (by omega)),
    Zw.ad_hold (.str (Zs.ba Zw.b1)) (.atom _ _ g1055) w16 (lt (Zw.l1 _ e1 _) (by omega)), Zw.ad_hold (.atom _ _ w16) (.str (Zs.ba [46])) w17 (lt (Zw.l2 _ e1 _) (by omega)), Zw.ad_hold (.atom _ _ w17) (.str (Zs.ba Zw.o5)) w18 (lt (Zw.k3 _ e1 _) (by omega)),
    Zw.ad_hold (.str (Zs.ba Zw.t0)) (.atom _ _ g1030) w19 (lt (Zw.l1 _ e2 _) (by omega)), Zw.ad_hold (.atom _ _ w19) (.str (Zs.ba [46])) w20 (lt (Zw.l2 _ e2 _) (by omega)), Zw.ad_hold (.atom _ _ w20) (.atom _ _ g1035) w21 (lt (Zw.l3 _ e2 _ _) (by omega)), Zw.ad_hold (.atom _ _ w21) (.str (Zs.ba [46])) w22 (lt (Zw.l4 _ e2 _ _) (by omega)), Zw.ad_hold (.atom _ _ w22) (.atom _ _ g1040) w23 (lt (Zw.l5 _ e2 _ _ _) (by omega)), trivial⟩
  have h5 : AllHold (nodeMu 8 [] vs) Zw.A5 := ⟨Zw.ln_hold w4 (Zw.l5 _ e0 _ _ _), Zw.ln_hold w7 (Zw.l5 _ e0 _ _ _), Zw.ln_hold w12 (Zw.k5 _ e0 _), Zw.ln_hold w23 (Zw.l5 _ e2 _ _ _), Zw.ln_hold w15 (Zw.l3 _ e1 _ _), Zw.ln_hold w18 (Zw.k3 _ e1 _), trivial⟩
  have h6 : ∀ q, intOpA .geq .i64 ((a + 1 : Nat) : Int) ((c + 1 : Nat) : Int) = some (.bool q) → AllHold (nodeMu 8 [] vs) (Zw.A6 q) := by
    intro q hq
    refine ⟨Zw.hold_s (.atom _ _ w4) (.str (Zs.ba [])) (Zs.neq_ok ?_) (.bool true), hold_bool (.atom _ _ aA) (.atom _ _ aC) hq, Zw.less_hold w4 w12 ?_, Zw.less_hold w7 w12 ?_, Zw.less_hold w15 w18 ?_, Zw.less_hold w23 w4 ?_, trivial⟩
    · simp [Zw.x5, Zw.x4]
    · simp only [Zw.x5, Zw.x4, Zw.x3, Zw.x2, Zw.x1, Zw.z5, Zw.z4, Zw.z3, List.append_assoc]; exact Zw.run_lt _ (by omega) _ _
    · simp only [Zw.x5, Zw.x4, Zw.x3, Zw.x2, Zw.x1, Zw.z5, Zw.z4, Zw.z3, List.append_assoc]; exact Zw.run_lt _ (by omega) _ _
    · simp only [Zw.x5, Zw.x4, Zw.x3, Zw.x2, Zw.x1, Zw.z5, Zw.z4, Zw.z3, List.append_assoc]; exact Zw.run_lt _ (by omega) _ _
    · simp only [Zw.x5, Zw.x4, Zw.x3, Zw.x2, Zw.x1, List.append_assoc]; exact Zs.bl_lt _ _ rfl (by decide)
  have fin : ∀ q, AllHold (nodeMu 8 [] vs) (Zw.A6 q) → AllHold (nodeMu 8 [] vs) (Zw.A7 q) → Zw.fin (Zw.T q) = true → NdGood Tryz.prog Tryz.f4 8 Tryz.H0 W Zw.pS Zw.d0 [(.int .i64 n0), (.int .i64 n1), (.int .i64 n2), (.int .i64 n3), (.int .i64 n4)] := fun q k6 k7 hq =>
    Zw.fx htab (Zw.T q) (Zw.ex r1 r2 a1 a2 b1 b2 c1 c2 d1 d2 r a b c d) [] (fun sy => Zw.kS Zw.mS sy) (by rw [← hvs]; exact Zw.ah_app h1 (Zw.ah_app h2 (Zw.ah_app h3 (Zw.ah_app h4 (Zw.ah_app h5 (Zw.ah_app k6 k7)))))) Zw.i0 rfl rfl rowsHold_nil hq
  by_cases h : c ≤ a
  · exact fin true (h6 true (op_geq_t (by omega))) trivial Zw.r1
  · refine fin false (h6 false (op_geq_f (by omega))) ⟨Zw.less_hold w4 w7 ?_, trivial⟩ Zw.r0
    simp only [Zw.x5, Zw.x4, Zw.x3, List.append_assoc]
    rw [Zs.bl_pre]
    exact Zs.bl_lt _ _ (by rw [Zs.padL_len, Zs.padL_len]) (Zs.bl_pad 5 (by omega) (by omega))
end Go.Proofs
