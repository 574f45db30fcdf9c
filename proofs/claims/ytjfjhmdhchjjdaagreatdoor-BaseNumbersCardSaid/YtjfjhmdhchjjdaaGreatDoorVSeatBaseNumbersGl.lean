/- The law: shapes of what is written; hence from its start, for every input. No conditions. -/
import Derived.Test.YtjfjhmdhchjjdaaGreatDoorVSeatBaseNumbersR1
import Derived.Test.YtjfjhmdhchjjdaaGreatDoorVSeatBaseNumbersR2
import Derived.Test.YtjfjhmdhchjjdaaGreatDoorVSeatBaseNumbersR3
import Derived.Test.YtjfjhmdhchjjdaaGreatDoorVSeatBaseNumbersR4
set_option linter.all false
namespace Go.Proofs
open Go Go.Vsx Go.RowKit
set_option maxRecDepth 1000000
set_option maxHeartbeats 4000000
set_option linter.unusedVariables false
theorem Zw.fx {W : World} {pt : Pt} {d : Nd} {vals : List Value} {roc : List (List Value)} {j hk : Nat} (t : List SE) (ex : List Value) (rows : List Pl)
    (hok : ∀ sy, okPt (Tryz.Es Tryz.m3 sy) 8 pt = true) (hold : AllHold (nodeMu 8 rows (vals ++ ex)) t)
    (hid : d.sub 8 roc (idl 8 d.objs) (idA hk) (d.st 8 []) = true) (hlen : hk = vals.length) (hone : (vals ++ ex).all (·.oneCell') = true) (hrow : RowsHold W (nodeMu 8 rows (vals ++ ex)) rows roc)
    (hrun : leafFin (Tryz.Es Tryz.m3 (syOf t)) Tryz.f7 (fK (Tryz.Es Tryz.m3 (syOf t)) 100000 100000 pt (d.st 8 roc) j) = true) : NdGood Tryz.prog Tryz.f7 8 Tryz.H0 W pt d vals :=
  NdGood.fin (E := Tryz.Es Tryz.m3 (syOf t)) (extras := ex) (rows := rows) (by omega) (Tryz.right Tryz.m3 (syOf t) _ W Tryz.mOk3 (symOk_of rfl hold)) (hok _) hid hlen hone hrow hrun

theorem Zw.rT {c L : Nat} (hc : c = 1 ∨ c = 2) (h1 : 1 ≤ L) (h2 : L ≤ 10) (g : Bool) : Zw.fin (Zw.T c L g) = true := by
  rcases hc with rfl | rfl <;> rcases (show L = 1 ∨ L = 2 ∨ L = 3 ∨ L = 4 ∨ L = 5 ∨ L = 6 ∨ L = 7 ∨ L = 8 ∨ L = 9 ∨ L = 10 by omega) with rfl | rfl | rfl | rfl | rfl | rfl | rfl | rfl | rfl | rfl <;> cases g
  · exact Zw.r1_1_false
  · exact Zw.r1_1_true
  · exact Zw.r1_2_false
  · exact Zw.r1_2_true
  · exact Zw.r1_3_false
  · exact Zw.r1_3_true
  · exact Zw.r1_4_false
  · exact Zw.r1_4_true
  · exact Zw.r1_5_false
  · exact Zw.r1_5_true
  · exact Zw.r1_6_false
  · exact Zw.r1_6_true
  · exact Zw.r1_7_false
  · exact Zw.r1_7_true
  · exact Zw.r1_8_false
  · exact Zw.r1_8_true
  · exact Zw.r1_9_false
  · exact Zw.r1_9_true
  · exact Zw.r1_10_false
  · exact Zw.r1_10_true
  · exact Zw.r2_1_false
  · exact Zw.r2_1_true
  · exact Zw.r2_2_false
  · exact Zw.r2_2_true
  · exact Zw.r2_3_false
  · exact Zw.r2_3_true
  · exact Zw.r2_4_false
  · exact Zw.r2_4_true
  · exact Zw.r2_5_false
  · exact Zw.r2_5_true
  · exact Zw.r2_6_false
  · exact Zw.r2_6_true
  · exact Zw.r2_7_false
  · exact Zw.r2_7_true
  · exact Zw.r2_8_false
  · exact Zw.r2_8_true
  · exact Zw.r2_9_false
  · exact Zw.r2_9_true
  · exact Zw.r2_10_false
  · exact Zw.r2_10_true
theorem Zw.rC {c L : Nat} (hc : c = 1 ∨ c = 2) (h1 : 1 ≤ L) (h2 : L ≤ 10) : Zw.chkN c L = true := by
  rcases hc with rfl | rfl <;> rcases (show L = 1 ∨ L = 2 ∨ L = 3 ∨ L = 4 ∨ L = 5 ∨ L = 6 ∨ L = 7 ∨ L = 8 ∨ L = 9 ∨ L = 10 by omega) with rfl | rfl | rfl | rfl | rfl | rfl | rfl | rfl | rfl | rfl
  · exact Zw.c1_1
  · exact Zw.c1_2
  · exact Zw.c1_3
  · exact Zw.c1_4
  · exact Zw.c1_5
  · exact Zw.c1_6
  · exact Zw.c1_7
  · exact Zw.c1_8
  · exact Zw.c1_9
  · exact Zw.c1_10
  · exact Zw.c2_1
  · exact Zw.c2_2
  · exact Zw.c2_3
  · exact Zw.c2_4
  · exact Zw.c2_5
  · exact Zw.c2_6
  · exact Zw.c2_7
  · exact Zw.c2_8
  · exact Zw.c2_9
  · exact Zw.c2_10

/-! whole numbers -/
theorem Zw.wu64 (n : Int) : IntKind.u64.wrap n = n % 18446744073709551616 := by simp [IntKind.wrap, IntKind.bits, IntKind.signed]
theorem Zw.oRem (k : IntKind) (a : Nat) : intOpA .rem k (a : Int) 128 = some (.int k ((a % 128 : Nat) : Int)) := by
  simp only [intOpA]
  rw [if_neg (by decide), Int.tmod_eq_emod_of_nonneg (by omega)]
  have : (a : Int) % 128 = ((a % 128 : Nat) : Int) := by omega
  rw [this]
theorem Zw.or8all : (List.range 128).all (fun a => decide (IntKind.u8.wrap ((BitVec.ofInt 8 (Int.ofNat a) ||| BitVec.ofInt 8 128).toNat) = Int.ofNat (a + 128))) = true := by kernel_rfl
theorem Zw.oOr8 {a : Nat} (h : a < 128) : intOpA .or .u8 (a : Int) 128 = some (.int .u8 ((a + 128 : Nat) : Int)) :=
  congrArg (fun n => some (Value.int .u8 n)) (of_decide_eq_true (List.all_eq_true.1 Zw.or8all a (List.mem_range.2 h)))
theorem Zw.oShr (a n : Nat) (k : Int) (hk : k = (n : Int)) (hn : n ≤ 64) : intOpX .shr .u64 .u64 (a : Int) k = some (.int .u64 ((a / 2 ^ n : Nat) : Int)) := by
  subst hk
  simp only [intOpX, shiftA]
  rw [if_neg (by omega)]
  have h1 : min (n : Int).toNat IntKind.u64.bits = n := by simp [IntKind.bits]; omega
  rw [h1]
  have h2 : ((a : Int).fdiv (2 ^ n)) = ((a / 2 ^ n : Nat) : Int) := by
    rw [Int.fdiv_eq_ediv_of_nonneg _ (by exact Int.pow_nonneg (by decide))]
    simp
  rw [h2]
theorem Zw.oShl {a i : Nat} (hi : i ≤ 9) (h : a * 128 ^ i < 18446744073709551616) : intOpX .shl .u64 .i64 (a : Int) (Int.ofNat (7 * i)) = some (.int .u64 ((a * 128 ^ i : Nat) : Int)) := by
  simp only [intOpX, shiftA]
  rw [if_neg (by simp only [Int.ofNat_eq_natCast]; omega)]
  have h1 : min (Int.ofNat (7 * i)).toNat IntKind.u64.bits = 7 * i := by simp [IntKind.bits]; omega
  rw [h1, Zw.wu64]
  have h2 : (a : Int) * 2 ^ (7 * i) = ((a * 128 ^ i : Nat) : Int) := by
    rw [Int.pow_mul]; simp
  rw [h2, Int.emod_eq_of_lt (by omega) (by omega)]
theorem Zw.or_add {a b i : Nat} (ha : a < 128 ^ i) : a ||| (b * 128 ^ i) = a + b * 128 ^ i := by
  have e : 128 ^ i = 2 ^ (7 * i) := by rw [Nat.pow_mul]
  rw [e] at ha ⊢
  have := Nat.two_pow_add_eq_or_of_lt ha b
  rw [Nat.mul_comm b, Nat.or_comm, ← this, Nat.add_comm]
theorem Zw.oOr {a b : Nat} (h : a ||| b < 18446744073709551616) (ha : a < 18446744073709551616) (hb : b < 18446744073709551616) : intOpA .or .u64 (a : Int) (b : Int) = some (.int .u64 ((a ||| b : Nat) : Int)) := by
  simp only [intOpA]
  have h1 : (BitVec.ofInt IntKind.u64.bits (a : Int) ||| BitVec.ofInt IntKind.u64.bits (b : Int)).toNat = a ||| b := by
    show (BitVec.ofInt 64 (a : Int) ||| BitVec.ofInt 64 (b : Int)).toNat = a ||| b
    simp only [BitVec.toNat_or, BitVec.ofInt_natCast, BitVec.toNat_ofNat]
    rw [Nat.mod_eq_of_lt (by omega), Nat.mod_eq_of_lt (by omega)]
  rw [h1, Zw.wu64, Int.emod_eq_of_lt (by omega) (by omega)]
theorem Zw.div_pow (u i : Nat) : u / 128 ^ (i + 1) = u / 128 ^ i / 128 := by rw [Nat.pow_succ, Nat.div_div_eq_div_mul]
theorem Zw.mod_pow (u i : Nat) : u % 128 ^ (i + 1) = u % 128 ^ i + u / 128 ^ i % 128 * 128 ^ i := by rw [Nat.mod_pow_succ, Nat.mul_comm]
theorem Zw.dig (u : Nat) : ∀ N, u / 128 ^ N < 128 → ∃ L, 1 ≤ L ∧ L ≤ N + 1 ∧ (∀ i, i + 1 < L → 128 ≤ u / 128 ^ i) ∧ u / 128 ^ (L - 1) < 128
  | 0, h => ⟨1, by omega, by omega, fun i hi => by omega, h⟩
  | N + 1, h => by
    by_cases h1 : u / 128 ^ N < 128
    · obtain ⟨L, a, b, c, d⟩ := Zw.dig u N h1
      exact ⟨L, a, by omega, c, d⟩
    · refine ⟨N + 2, by omega, by omega, fun i hi => ?_, h⟩
      have : u / 128 ^ N ≤ u / 128 ^ i := Nat.div_le_div_left (Nat.pow_le_pow_right (by omega) (by omega)) (Nat.pow_pos (by omega))
      omega

/-! the tables' pieces -/
theorem Zw.ah_app {m : Mu} {b : List SE} : ∀ {a : List SE}, AllHold m a → AllHold m b → AllHold m (a ++ b)
  | [], _, h2 => h2
  | _ :: _, h1, h2 => ⟨h1.1, Zw.ah_app h1.2 h2⟩
theorem Zw.catHold {m : Mu} {f : Nat → List SE} : ∀ n, (∀ i, i < n → AllHold m (f i)) → AllHold m (Zw.cat f n)
  | 0, _ => trivial
  | n + 1, h => Zw.ah_app (Zw.catHold n fun i hi => h i (by omega)) (h n (by omega))
theorem Zw.dAt {m : Mu} {z s u L : Nat} (hz : m.at_ z = some (.int .u64 (u : Int))) (h3 : ∀ i, i < L → m.at_ (s + 4 * i + 3) = some (.int .u64 ((u / 128 ^ (i + 1) : Nat) : Int))) : ∀ i, i < L → m.at_ (Zw.dA z s i) = some (.int .u64 ((u / 128 ^ i : Nat) : Int))
  | 0, _ => by
    show m.at_ z = _
    rw [hz]; simp
  | i + 1, h => h3 i (by omega)
theorem Zw.blt_t {a b : Nat} (h : a < b) : Nat.blt a b = true := by unfold Nat.blt; rw [Nat.ble_eq]; exact h
theorem Zw.blt_f {a b : Nat} (h : ¬ a < b) : Nat.blt a b = false := by
  cases hb : Nat.blt a b with
  | false => rfl
  | true => exact absurd (Nat.le_of_ble_eq_true hb) h
theorem Zw.putHold {m : Mu} {z s u L : Nat} (hz : m.at_ z = some (.int .u64 (u : Int)))
    (h0 : ∀ i, i < L → m.at_ (s + 4 * i) = some (.int .u64 ((u / 128 ^ i % 128 : Nat) : Int)) ∧ m.at_ (s + 4 * i + 1) = some (.int .u8 ((u / 128 ^ i % 128 : Nat) : Int)) ∧ m.at_ (s + 4 * i + 2) = some (.int .u8 ((u / 128 ^ i % 128 + 128 : Nat) : Int)) ∧ m.at_ (s + 4 * i + 3) = some (.int .u64 ((u / 128 ^ (i + 1) : Nat) : Int)))
    (hd : ∀ i, i + 1 < L → 128 ≤ u / 128 ^ i) (hl : u / 128 ^ (L - 1) < 128) : AllHold m (Zw.cat (Zw.putE z s L) L) := by
  refine Zw.catHold L fun i hi => ?_
  obtain ⟨a0, a1, a2, a3⟩ := h0 i hi
  have hA := Zw.dAt hz (fun i hi => (h0 i hi).2.2.2) i hi
  unfold Zw.putE
  by_cases hlt : i + 1 < L
  · rw [Zw.blt_t hlt]
    have hx : u / 128 ^ i % 128 < 128 := Nat.mod_lt _ (by omega)
    have h128 := hd i hlt
    generalize hxd : u / 128 ^ i % 128 = x at hx a0 a1 a2
    refine ⟨hold_bool (.atom _ _ hA) (.int _ _) (op_geq_t (by omega)), hold_op (.atom _ _ hA) (.int _ _) (Zw.oRem _ _) (.atom _ _ (by rw [hxd]; exact a0)), hold_conv (.atom _ _ a0) (.atom _ _ a1) (by rw [IntKind.wrap_u8]; omega), hold_op (.atom _ _ a1) (.int _ _) (Zw.oOr8 hx) (.atom _ _ a2), hold_sh (.atom _ _ hA) (.int _ _) (Zw.oShr _ 7 7 rfl (by omega)) (.atom _ _ ?_), trivial⟩
    rw [a3, Zw.div_pow]
  · rw [Zw.blt_f hlt]
    have hi' : i = L - 1 := by omega
    have hd' : u / 128 ^ i < 128 := by rw [hi']; exact hl
    generalize u / 128 ^ i = d at *
    refine ⟨hold_bool (.atom _ _ hA) (.int _ _) (op_geq_f (by omega)), hold_conv (.atom _ _ hA) (.atom _ _ a1) (by rw [IntKind.wrap_u8]; omega), trivial⟩
theorem Zw.getHold {m : Mu} {z s t u L : Nat} (hz : m.at_ z = some (.int .u64 (u : Int))) (hu : u < 18446744073709551616) (hL : L ≤ 10)
    (h0 : ∀ i, i < L → m.at_ (s + 4 * i + 1) = some (.int .u8 ((u / 128 ^ i % 128 : Nat) : Int)) ∧ m.at_ (s + 4 * i + 2) = some (.int .u8 ((u / 128 ^ i % 128 + 128 : Nat) : Int)))
    (h1 : ∀ i, i < L → m.at_ (t + 4 * i) = some (.int .u8 ((u / 128 ^ i % 128 : Nat) : Int)) ∧ m.at_ (t + 4 * i + 1) = some (.int .u64 ((u / 128 ^ i % 128 : Nat) : Int)) ∧ m.at_ (t + 4 * i + 2) = some (.int .u64 ((u / 128 ^ i % 128 * 128 ^ i : Nat) : Int)) ∧ m.at_ (t + 4 * i + 3) = some (.int .u64 ((u % 128 ^ (i + 1) : Nat) : Int)))
    (hd : ∀ i, i + 1 < L → 128 ≤ u / 128 ^ i) (hl : u / 128 ^ (L - 1) < 128) : AllHold m (Zw.cat (Zw.getE z s t L) L) := by
  refine Zw.catHold L fun i hi => ?_
  obtain ⟨b1, b2⟩ := h0 i hi
  obtain ⟨a0, a1, a2, a3⟩ := h1 i hi
  have hacc : VR m (Zw.acc t i) (.int .u64 ((u % 128 ^ i : Nat) : Int)) := by
    cases i with
    | zero =>
      have : u % 128 ^ 0 = 0 := by simp [Nat.mod_one]
      rw [this]; exact .int _ _
    | succ i => exact .atom _ _ (h1 i (by omega)).2.2.2
  have hx : u / 128 ^ i % 128 < 128 := Nat.mod_lt _ (by omega)
  have hm := Zw.mod_pow u i
  have hlt : u % 128 ^ i < 128 ^ i := Nat.mod_lt _ (Nat.pow_pos (by omega))
  have hle : u % 128 ^ (i + 1) ≤ u := Nat.mod_le _ _
  have hor := Zw.or_add (b := u / 128 ^ i % 128) hlt
  have hlast : ¬ i + 1 < L → u / 128 ^ i < 128 := fun h => by
    have : i = L - 1 := by omega
    rw [this]; exact hl
  have hnine : i = 9 → u / 128 ^ i ≤ 1 := fun h => by
    subst h
    have : (128 : Nat) ^ 9 = 9223372036854775808 := by decide
    rw [this]; omega
  have hr : VR m (ch (bif Nat.blt (i + 1) L then t + 4 * i + 3 else z)) (.int .u64 ((u % 128 ^ (i + 1) : Nat) : Int)) := by
    by_cases hq : i + 1 < L
    · rw [Zw.blt_t hq]; exact .atom _ _ a3
    · rw [Zw.blt_f hq]
      have h2 := hlast hq
      have : u % 128 ^ (i + 1) = u := Nat.mod_eq_of_lt (by
        have h3 := (Nat.div_lt_iff_lt_mul (Nat.pow_pos (by omega))).1 h2
        rw [Nat.pow_succ, Nat.mul_comm]; exact h3)
      rw [this]; exact .atom _ _ hz
  obtain ⟨B, hB, hB1, hB2⟩ : ∃ B : Nat, m.at_ (Zw.bA s L i) = some (.int .u8 (B : Int)) ∧ B % 128 = u / 128 ^ i % 128 ∧ ((i + 1 < L ∧ 128 ≤ B) ∨ (¬ i + 1 < L ∧ B = u / 128 ^ i)) := by
    unfold Zw.bA
    by_cases hq : i + 1 < L
    · rw [Zw.blt_t hq]
      exact ⟨_, b2, by omega, .inl ⟨hq, by omega⟩⟩
    · rw [Zw.blt_f hq]
      have h2 := hlast hq
      exact ⟨_, b1, Nat.mod_mod _ _, .inr ⟨hq, Nat.mod_eq_of_lt h2⟩⟩
  have hxp : u / 128 ^ i % 128 * 128 ^ i < 18446744073709551616 := Nat.lt_of_le_of_lt (Nat.le_add_left _ _) (by rw [← hm]; omega)
  have hsh := Zw.oShl (a := u / 128 ^ i % 128) (i := i) (by omega) hxp
  have ho : intOpA .or .u64 ((u % 128 ^ i : Nat) : Int) ((u / 128 ^ i % 128 * 128 ^ i : Nat) : Int) = some (.int .u64 ((u % 128 ^ (i + 1) : Nat) : Int)) := by
    rw [Zw.oOr (by rw [hor, ← hm]; omega) (Nat.lt_of_le_of_lt (Nat.mod_le _ _) hu) hxp, hor, hm]
  have hrem : intOpA .rem .u8 (B : Int) 128 = some (.int .u8 ((u / 128 ^ i % 128 : Nat) : Int)) := by rw [Zw.oRem, hB1]
  have hge : intOpA .geq .u8 (B : Int) 128 = some (.bool (Nat.blt (i + 1) L)) := by
    rcases hB2 with ⟨hq, h2⟩ | ⟨hq, h2⟩
    · rw [Zw.blt_t hq]; exact op_geq_t (by omega)
    · rw [Zw.blt_f hq]
      have := hlast hq
      exact op_geq_f (by omega)
  unfold Zw.getE
  refine Zw.ah_app (a := [_, _, _, _, _]) ⟨hold_op (.atom _ _ hB) (.int _ _) hrem (.atom _ _ a0), hold_conv (.atom _ _ a0) (.atom _ _ a1) (by rw [Zw.wu64]; omega), hold_sh (.atom _ _ a1) (.int _ _) hsh (.atom _ _ a2), hold_op hacc (.atom _ _ a2) ho hr, hold_bool (.atom _ _ hB) (.int _ _) hge, trivial⟩ (Zw.ah_app ?_ ?_)
  · by_cases hq : i + 1 < L
    · rw [Zw.blt_t hq]; trivial
    · rw [Zw.blt_f hq]
      by_cases hz0 : i = 0
      · subst hz0; trivial
      · have hb : Nat.beq i 0 = false := by
          cases hbe : Nat.beq i 0 with
          | false => rfl
          | true => exact absurd (Nat.eq_of_beq_eq_true hbe) hz0
        rw [hb]
        refine ⟨hold_bool (.atom _ _ a1) (.int _ _) (op_eql_f ?_), trivial⟩
        have h2 := hlast hq
        obtain ⟨i, rfl⟩ : ∃ j, i = j + 1 := ⟨i - 1, by omega⟩
        have h3 := hd i (by omega)
        have h4 := Zw.div_pow u i
        omega
  · by_cases h9 : i = 9
    · subst h9
      refine ⟨hold_bool (.atom _ _ hB) (.int _ _) (op_gtr_f ?_), trivial⟩
      have := hnine rfl
      rcases hB2 with ⟨hq, h2⟩ | ⟨hq, h2⟩
      · omega
      · omega
    · have hb : Nat.beq i 9 = false := by
        cases hbe : Nat.beq i 9 with
        | false => rfl
        | true => exact absurd (Nat.eq_of_beq_eq_true hbe) h9
      rw [hb]; trivial

/-! values in a row -/
def Zw.pv (u : Nat) : Nat → List Value
  | 0 => []
  | n + 1 => Zw.pv u n ++ [.int .u64 ((u / 128 ^ n % 128 : Nat) : Int), .int .u8 ((u / 128 ^ n % 128 : Nat) : Int), .int .u8 ((u / 128 ^ n % 128 + 128 : Nat) : Int), .int .u64 ((u / 128 ^ (n + 1) : Nat) : Int)]
def Zw.gv (u : Nat) : Nat → List Value
  | 0 => []
  | n + 1 => Zw.gv u n ++ [.int .u8 ((u / 128 ^ n % 128 : Nat) : Int), .int .u64 ((u / 128 ^ n % 128 : Nat) : Int), .int .u64 ((u / 128 ^ n % 128 * 128 ^ n : Nat) : Int), .int .u64 ((u % 128 ^ (n + 1) : Nat) : Int)]
theorem Zw.four {f : Nat → List Value} {a b c d : Nat → Value} (h0 : f 0 = []) (hs : ∀ n, f (n + 1) = f n ++ [a n, b n, c n, d n]) : ∀ n, (f n).length = 4 * n ∧ ∀ j, j < n → (f n)[4 * j]? = some (a j) ∧ (f n)[4 * j + 1]? = some (b j) ∧ (f n)[4 * j + 2]? = some (c j) ∧ (f n)[4 * j + 3]? = some (d j)
  | 0 => ⟨by rw [h0]; rfl, fun j h => absurd h (Nat.not_lt_zero _)⟩
  | n + 1 => by
    obtain ⟨hl, h⟩ := Zw.four h0 hs n
    rw [hs]
    refine ⟨by simp only [List.length_append, hl, List.length_cons, List.length_nil]; omega, fun j hj => ?_⟩
    rcases Nat.lt_or_ge j n with h2 | h2
    · rw [List.getElem?_append_left (by omega), List.getElem?_append_left (by omega), List.getElem?_append_left (by omega), List.getElem?_append_left (by omega)]
      exact h j h2
    · obtain rfl : j = n := by omega
      rw [List.getElem?_append_right (by omega), List.getElem?_append_right (by omega), List.getElem?_append_right (by omega), List.getElem?_append_right (by omega), hl]
      rw [show 4 * j - 4 * j = 0 by omega, show 4 * j + 1 - 4 * j = 1 by omega, show 4 * j + 2 - 4 * j = 2 by omega, show 4 * j + 3 - 4 * j = 3 by omega]
      exact ⟨rfl, rfl, rfl, rfl⟩
theorem Zw.pv_all (u n : Nat) : (Zw.pv u n).length = 4 * n ∧ ∀ j, j < n → (Zw.pv u n)[4 * j]? = some (.int .u64 ((u / 128 ^ j % 128 : Nat) : Int)) ∧ (Zw.pv u n)[4 * j + 1]? = some (.int .u8 ((u / 128 ^ j % 128 : Nat) : Int)) ∧ (Zw.pv u n)[4 * j + 2]? = some (.int .u8 ((u / 128 ^ j % 128 + 128 : Nat) : Int)) ∧ (Zw.pv u n)[4 * j + 3]? = some (.int .u64 ((u / 128 ^ (j + 1) : Nat) : Int)) :=
  Zw.four (f := Zw.pv u) (a := fun j => .int .u64 ((u / 128 ^ j % 128 : Nat) : Int)) (b := fun j => .int .u8 ((u / 128 ^ j % 128 : Nat) : Int)) (c := fun j => .int .u8 ((u / 128 ^ j % 128 + 128 : Nat) : Int)) (d := fun j => .int .u64 ((u / 128 ^ (j + 1) : Nat) : Int)) rfl (fun _ => rfl) n
theorem Zw.gv_all (u n : Nat) : (Zw.gv u n).length = 4 * n ∧ ∀ j, j < n → (Zw.gv u n)[4 * j]? = some (.int .u8 ((u / 128 ^ j % 128 : Nat) : Int)) ∧ (Zw.gv u n)[4 * j + 1]? = some (.int .u64 ((u / 128 ^ j % 128 : Nat) : Int)) ∧ (Zw.gv u n)[4 * j + 2]? = some (.int .u64 ((u / 128 ^ j % 128 * 128 ^ j : Nat) : Int)) ∧ (Zw.gv u n)[4 * j + 3]? = some (.int .u64 ((u % 128 ^ (j + 1) : Nat) : Int)) :=
  Zw.four (f := Zw.gv u) (a := fun j => .int .u8 ((u / 128 ^ j % 128 : Nat) : Int)) (b := fun j => .int .u64 ((u / 128 ^ j % 128 : Nat) : Int)) (c := fun j => .int .u64 ((u / 128 ^ j % 128 * 128 ^ j : Nat) : Int)) (d := fun j => .int .u64 ((u % 128 ^ (j + 1) : Nat) : Int)) rfl (fun _ => rfl) n
theorem Zw.at_ {ng : Nat} {rows : List Pl} {vals : List Value} {v k : Nat} (h : v = 1000 + k) : (nodeMu ng rows vals).at_ v = vals[k]? := by
  subst h
  show atomsOf vals (1000 + k) = _
  unfold atomsOf
  rw [if_pos (by omega)]
  congr 1; omega
/-- A piece of what is known. -/
theorem Zw.seg {ng : Nat} {rows : List Pl} {X A B C : List Value} (hX : X = A ++ (B ++ C)) {v i : Nat} (hi : i < B.length) (hv : v = 1000 + A.length + i) : (nodeMu ng rows X).at_ v = B[i]? := by
  rw [Zw.at_ (k := A.length + i) (by omega), hX, List.getElem?_append_right (by omega), List.getElem?_append_left (by omega)]
  congr 1; omega

/-! what follows from what is known: sums -/
def Zw.KO : List IntKind → List Value → Prop
  | [], [] => True
  | k :: ks, v :: vs => (∃ n, v = .int k n) ∧ Zw.KO ks vs
  | _, _ => False
theorem Zw.KO.app : ∀ {a : List IntKind} {x : List Value} {b : List IntKind} {y : List Value}, Zw.KO a x → Zw.KO b y → Zw.KO (a ++ b) (x ++ y)
  | [], [], _, _, _, h => h
  | _ :: _, _ :: _, _, _, h, k => ⟨h.1, h.2.app k⟩
  | [], _ :: _, _, _, h, _ => h.elim
  | _ :: _, [], _, _, h, _ => h.elim
theorem Zw.KO.get : ∀ {a : List IntKind} {x : List Value}, Zw.KO a x → ∀ {i : Nat} {k : IntKind}, a[i]? = some k → ∃ n, x[i]? = some (.int k n)
  | [], _, _, i, k, h => by simp at h
  | _ :: _, [], h, _, _, _ => h.elim
  | k0 :: a, v :: x, h, i, k, hk => by
    cases i with
    | zero =>
      simp at hk; subst hk
      obtain ⟨n, rfl⟩ := h.1
      exact ⟨n, rfl⟩
    | succ i => simpa using h.2.get (by simpa using hk)
theorem Zw.KO.one : ∀ {a : List IntKind} {x : List Value}, Zw.KO a x → x.all (·.oneCell') = true
  | [], [], _ => rfl
  | [], _ :: _, h => h.elim
  | _ :: _, [], h => h.elim
  | _ :: _, _ :: _, h => by
    obtain ⟨n, rfl⟩ := h.1
    simp only [List.all_cons, h.2.one, Bool.and_true]; rfl
theorem Zw.kdVal {ks : List IntKind} {vs : List Value} (hk : Zw.KO ks vs) {x : Value} {k : IntKind} (h : Zw.kd ks x = some k) : ∃ n, (∀ ex, VR (nodeMu 8 [] (vs ++ ex)) x (.int k n)) ∧ ∀ kk c, x = .int kk c → n = c := by
  unfold Zw.kd at h
  split at h
  · cases h; exact ⟨_, fun _ => .int _ _, fun _ _ e => by cases e; rfl⟩
  · rename_i a
    cases hb : Nat.ble 1000 a with
    | false => rw [hb] at h; cases h
    | true =>
      rw [hb] at h
      have h' : ks[a - 1000]? = some k := h
      have hle := Nat.le_of_ble_eq_true hb
      obtain ⟨n, hn⟩ := hk.get h'
      refine ⟨n, fun ex => .atom _ _ ?_, fun _ _ e => by cases e⟩
      rw [Zw.at_ (k := a - 1000) (by omega), List.getElem?_append_left (List.getElem?_eq_some_iff.1 hn).1]
      exact hn
  · cases h
theorem Zw.stepOk {op : BinOp} {k k' k2 : IntKind} {y : Value} (h : Zw.stepK op k k' y = some k2) (a b : Int) (hb : ∀ kk c, y = .int kk c → b = c) : ∃ n, intOpX op k k' a b = some (.int k2 n) := by
  unfold Zw.stepK at h
  split at h
  · split at h
    · cases h; rename_i hk; subst hk; exact ⟨_, intOpX_of rfl⟩
    · cases h
  · split at h
    · cases h; rename_i hk; subst hk; exact ⟨_, intOpX_of rfl⟩
    · cases h
  · split at h
    · split at h
      · cases h
      · cases h; rename_i c hk hc; subst hk
        obtain rfl := hb _ _ rfl
        exact ⟨_, intOpX_of (by simp only [intOpA]; rw [if_neg hc])⟩
    · cases h
  · split at h
    · cases h
    · cases h; rename_i c hc
      obtain rfl := hb _ _ rfl
      exact ⟨_, by simp only [intOpX, shiftA]; rw [if_neg hc]⟩
  · split at h
    · cases h
    · cases h; rename_i c hc
      obtain rfl := hb _ _ rfl
      exact ⟨_, by simp only [intOpX, shiftA]; rw [if_neg hc]⟩
  · cases h
theorem Zw.asmHold : ∀ (ins : List Zw.In) (ks : List IntKind) (vs : List Value) (ks' : List IntKind), Zw.KO ks vs → Zw.chk ks ins = some ks' → ∃ ex, Zw.KO ks' (vs ++ ex) ∧ AllHold (nodeMu 8 [] (vs ++ ex)) (Zw.asmT (1000 + vs.length) ins)
  | [], ks, vs, ks', hk, h => by
    cases h
    exact ⟨[], by simpa using hk, trivial⟩
  | .b op x y :: l, ks, vs, ks', hk, h => by
    simp only [Zw.chk] at h
    split at h
    case h_2 => cases h
    case h_1 k k' hx hy =>
    split at h
    case h_2 => cases h
    case h_1 k2 hs =>
    obtain ⟨a, ha, _⟩ := Zw.kdVal hk hx
    obtain ⟨b, hb, hbc⟩ := Zw.kdVal hk hy
    obtain ⟨n, hn⟩ := Zw.stepOk hs a b hbc
    obtain ⟨ex, h1, h2⟩ := Zw.asmHold l (ks ++ [k2]) (vs ++ [.int k2 n]) ks' (hk.app (b := [k2]) (y := [.int k2 n]) ⟨⟨n, rfl⟩, trivial⟩) h
    refine ⟨.int k2 n :: ex, by simpa using h1, hold_sh (ha _) (hb _) hn (.atom _ _ (by rw [Zw.at_ (k := vs.length) rfl]; simp)), ?_⟩
    rw [List.length_append, List.append_assoc] at h2
    exact h2
  | .c k x :: l, ks, vs, ks', hk, h => by
    simp only [Zw.chk] at h
    split at h
    case h_2 => cases h
    case h_1 k0 hx =>
    obtain ⟨a, ha, _⟩ := Zw.kdVal hk hx
    obtain ⟨ex, h1, h2⟩ := Zw.asmHold l (ks ++ [k]) (vs ++ [.int k (k.wrap a)]) ks' (hk.app (b := [k]) (y := [.int k (k.wrap a)]) ⟨⟨_, rfl⟩, trivial⟩) h
    refine ⟨.int k (k.wrap a) :: ex, by simpa using h1, hold_conv (ha _) (.atom _ _ (by rw [Zw.at_ (k := vs.length) rfl]; simp)) rfl, ?_⟩
    rw [List.length_append, List.append_assoc] at h2
    exact h2
theorem Zw.pk_ok (u : Nat) : ∀ n, Zw.KO (Zw.pk n) (Zw.pv u n)
  | 0 => trivial
  | n + 1 => (Zw.pk_ok u n).app ⟨⟨_, rfl⟩, ⟨_, rfl⟩, ⟨_, rfl⟩, ⟨_, rfl⟩, trivial⟩
theorem Zw.gk_ok (u : Nat) : ∀ n, Zw.KO (Zw.gk n) (Zw.gv u n)
  | 0 => trivial
  | n + 1 => (Zw.gk_ok u n).app ⟨⟨_, rfl⟩, ⟨_, rfl⟩, ⟨_, rfl⟩, ⟨_, rfl⟩, trivial⟩
theorem Zw.nesHold {m : Mu} : ∀ l : List Nat, (∀ x ∈ l, ∃ k n, VR m (ch x) (.int k n)) → AllHold m (l.map Zw.eN)
  | [], _ => trivial
  | x :: l, h => by
    obtain ⟨k, n, hv⟩ := h x (List.mem_cons_self ..)
    exact ⟨hold_bool hv hv (op_neq_f rfl), Zw.nesHold l fun y hy => h y (List.mem_cons_of_mem _ hy)⟩

/-! the value, as it is written: nought and above even, below odd -/
theorem Zw.xorOnes {a : Nat} (h : a < 18446744073709551616) : a ^^^ 18446744073709551615 = 18446744073709551615 - a := by
  have h1 : (BitVec.ofNat 64 a ^^^ BitVec.allOnes 64).toNat = (~~~ BitVec.ofNat 64 a).toNat := by rw [BitVec.xor_allOnes]
  simp only [BitVec.toNat_xor, BitVec.toNat_allOnes, BitVec.toNat_not, BitVec.toNat_ofNat] at h1
  rw [Nat.mod_eq_of_lt (by omega)] at h1
  exact h1
theorem Zw.oXor {k : IntKind} (hk : k.bits = 64) {x y : Int} {a b : Nat} (hx : (BitVec.ofInt 64 x).toNat = a) (hy : (BitVec.ofInt 64 y).toNat = b) : intOpA .xor k x y = some (.int k (k.wrap ((a ^^^ b : Nat) : Int))) := by
  simp only [intOpA]
  have h1 : (BitVec.ofInt k.bits x ^^^ BitVec.ofInt k.bits y).toNat = a ^^^ b := by
    rw [hk, BitVec.toNat_xor, hx, hy]
  rw [h1]
theorem Zw.bv {x : Int} {a : Nat} (h : x = (a : Int)) (ha : a < 18446744073709551616) : (BitVec.ofInt 64 x).toNat = a := by
  subst h
  rw [BitVec.ofInt_natCast, BitVec.toNat_ofNat]
  exact Nat.mod_eq_of_lt (by omega)
theorem Zw.bvN {x : Int} {a : Nat} (h : x = (a : Int) - 18446744073709551616) (ha : a < 18446744073709551616) : (BitVec.ofInt 64 x).toNat = a := by
  rw [BitVec.toNat_ofInt]
  subst h
  show (((a : Int) - 18446744073709551616) % 18446744073709551616).toNat = a
  omega
theorem Zw.oAnd1 (z : Nat) (hz : z < 18446744073709551616) : intOpA .and .u64 (z : Int) 1 = some (.int .u64 ((z % 2 : Nat) : Int)) := by
  simp only [intOpA]
  have h1 : (BitVec.ofInt IntKind.u64.bits (z : Int) &&& BitVec.ofInt IntKind.u64.bits 1).toNat = z % 2 := by
    show (BitVec.ofInt 64 (z : Int) &&& BitVec.ofInt 64 1).toNat = z % 2
    rw [BitVec.toNat_and, Zw.bv rfl hz]
    show z &&& 1 = z % 2
    exact Nat.and_one_is_mod z
  rw [h1, Zw.wu64, Int.emod_eq_of_lt (by omega) (by omega)]

theorem Zw.n0 {W : World} {n0 : Int} {n1 : Int} (r0 : R64 n0) (r1 : R64 n1) : NdGood Tryz.prog Tryz.f7 8 Tryz.H0 W Zw.pS Zw.d0 [(.int .i64 n0), (.int .i64 n1)] := by
  have ⟨rl0, rh0⟩ := r0
  have ⟨rl1, rh1⟩ := r1
  obtain ⟨d1, ⟨y1, e1, z1, u1, v1⟩, g1, o1⟩ := ex_rem n0 (10010 : Int) (by omega) (by omega)
  obtain ⟨d2, e2, g2, o2⟩ := ex_sub d1 (4 : Int)
  have f2 : d2 = d1 - 4 := by omega
  by_cases q0 : d2 < 0
  · exact Zw.fx Zw.e0 [.int .i64 d1, .int .i64 d2] [] (fun sy => Zw.kS Tryz.m3 sy) ⟨hold_op (.atom _ _ rfl) (.int _ _) (o1 .i64) (.atom _ _ rfl), hold_op (.atom _ _ rfl) (.int _ _) o2 (.atom _ _ rfl), hold_bool (.atom _ _ rfl) (.int _ _) (op_lss_t q0), trivial⟩ Zw.i0 rfl rfl rowsHold_nil Zw.r0
  by_cases q1 : 10000 < d2
  · exact Zw.fx Zw.e1 [.int .i64 d1, .int .i64 d2] [] (fun sy => Zw.kS Tryz.m3 sy) ⟨hold_op (.atom _ _ rfl) (.int _ _) (o1 .i64) (.atom _ _ rfl), hold_op (.atom _ _ rfl) (.int _ _) o2 (.atom _ _ rfl), hold_bool (.atom _ _ rfl) (.int _ _) (op_lss_f (by omega)), hold_bool (.atom _ _ rfl) (.int _ _) (op_gtr_t q1), trivial⟩ Zw.i0 rfl rfl rowsHold_nil Zw.r1
  obtain ⟨u, rfl⟩ : ∃ u : Nat, d2 = (u : Int) := ⟨d2.toNat, by omega⟩
  have hu : u ≤ 10000 := by omega
  -- the value's number
  obtain ⟨z, g, hz⟩ : ∃ (z : Nat) (g : Bool), (g = false ∧ 0 ≤ n1 ∧ (z : Int) = 2 * n1) ∨ (g = true ∧ n1 < 0 ∧ (z : Int) = - 2 * n1 - 1) := by
    by_cases h : 0 ≤ n1
    · exact ⟨(2 * n1).toNat, false, .inl ⟨rfl, h, by omega⟩⟩
    · exact ⟨(- 2 * n1 - 1).toNat, true, .inr ⟨rfl, by omega, by omega⟩⟩
  have hz64 : z < 18446744073709551616 := by omega
  obtain ⟨c, c1, c2, cd, cl⟩ := Zw.dig u 1 (by rw [Nat.pow_one]; omega)
  obtain ⟨L, l1, l2, ld, ll⟩ := Zw.dig z 9 (by
    have : (128 : Nat) ^ 9 = 9223372036854775808 := by decide
    rw [this]; omega)
  have hc : c = 1 ∨ c = 2 := by omega
  -- what is known
  obtain ⟨five, h5⟩ : ∃ five : List Value, five = [.int .u64 (IntKind.u64.wrap n1), .int .u64 (IntKind.u64.wrap (IntKind.u64.wrap n1 * 2)), .int .i64 (- Zw.sg g), .int .u64 (IntKind.u64.wrap (- Zw.sg g)), .int .u64 (z : Int)] := ⟨_, rfl⟩
  obtain ⟨vs, hvs⟩ : ∃ vs : List Value, vs = [.int .i64 n0, .int .i64 n1] ++ ([.int .i64 d1, .int .i64 (u : Int), .int .u64 (u : Int)] ++ (Zw.pv u c ++ (Zw.gv u c ++ (five ++ (Zw.pv z L ++ (Zw.gv z L ++ [.int .u64 ((z / 2 : Nat) : Int), .int .i64 ((z / 2 : Nat) : Int)])))))) := ⟨_, rfl⟩
  have hko : Zw.KO (Zw.ks c L) vs := by
    rw [hvs, h5]
    unfold Zw.ks
    exact Zw.KO.app (a := [_, _]) ⟨⟨_, rfl⟩, ⟨_, rfl⟩, trivial⟩ (Zw.KO.app (a := [_, _, _]) ⟨⟨_, rfl⟩, ⟨_, rfl⟩, ⟨_, rfl⟩, trivial⟩ ((Zw.pk_ok u c).app ((Zw.gk_ok u c).app (Zw.KO.app (a := [_, _, _, _, _]) ⟨⟨_, rfl⟩, ⟨_, rfl⟩, ⟨_, rfl⟩, ⟨_, rfl⟩, ⟨_, rfl⟩, trivial⟩ ((Zw.pk_ok z L).app ((Zw.gk_ok z L).app ⟨⟨_, rfl⟩, ⟨_, rfl⟩, trivial⟩))))))
  have hC := Zw.rC hc l1 l2
  unfold Zw.chkN at hC
  split at hC
  case h_2 => cases hC
  case h_1 k' hk' =>
  obtain ⟨ex, hko', hasm⟩ := Zw.asmHold (Zw.ins c L) _ vs k' hko hk'
  obtain ⟨pl, pa⟩ := Zw.pv_all u c
  obtain ⟨gl, ga⟩ := Zw.gv_all u c
  obtain ⟨pl2, pa2⟩ := Zw.pv_all z L
  obtain ⟨gl2, ga2⟩ := Zw.gv_all z L
  have h5l : five.length = 5 := by rw [h5]; rfl
  have hvl : vs.length = 12 + 8 * c + 8 * L := by rw [hvs]; simp only [List.length_append, List.length_cons, List.length_nil, pl, gl, pl2, gl2, h5l]; omega
  generalize hm : nodeMu 8 [] (vs ++ ex) = m at hasm
  have b0 : m.at_ 1000 = some (.int .i64 n0) := by rw [← hm, hvs]; rfl
  have b1 : m.at_ 1001 = some (.int .i64 n1) := by rw [← hm, hvs]; rfl
  have b2 : m.at_ 1002 = some (.int .i64 d1) := by rw [← hm, hvs]; rfl
  have b3 : m.at_ 1003 = some (.int .i64 (u : Int)) := by rw [← hm, hvs]; rfl
  have b4 : m.at_ 1004 = some (.int .u64 (u : Int)) := by rw [← hm, hvs]; rfl
  have sP : ∀ i, i < 4 * c → m.at_ (1005 + i) = (Zw.pv u c)[i]? := fun i hi => by
    rw [← hm]
    exact Zw.seg (A := [.int .i64 n0, .int .i64 n1] ++ [.int .i64 d1, .int .i64 (u : Int), .int .u64 (u : Int)]) (B := Zw.pv u c) (C := Zw.gv u c ++ (five ++ (Zw.pv z L ++ (Zw.gv z L ++ [.int .u64 ((z / 2 : Nat) : Int), .int .i64 ((z / 2 : Nat) : Int)]))) ++ ex) (by rw [hvs]; simp only [List.append_assoc]) (by omega) (by simp only [List.length_append, List.length_cons, List.length_nil])
  have sG : ∀ i, i < 4 * c → m.at_ (1005 + 4 * c + i) = (Zw.gv u c)[i]? := fun i hi => by
    rw [← hm]
    exact Zw.seg (A := [.int .i64 n0, .int .i64 n1] ++ ([.int .i64 d1, .int .i64 (u : Int), .int .u64 (u : Int)] ++ Zw.pv u c)) (B := Zw.gv u c) (C := five ++ (Zw.pv z L ++ (Zw.gv z L ++ [.int .u64 ((z / 2 : Nat) : Int), .int .i64 ((z / 2 : Nat) : Int)])) ++ ex) (by rw [hvs]; simp only [List.append_assoc]) (by omega) (by simp only [List.length_append, List.length_cons, List.length_nil, pl]; omega)
  have s5 : ∀ i, i < 5 → m.at_ (Zw.p c + i) = five[i]? := fun i hi => by
    rw [← hm]
    exact Zw.seg (A := [.int .i64 n0, .int .i64 n1] ++ ([.int .i64 d1, .int .i64 (u : Int), .int .u64 (u : Int)] ++ (Zw.pv u c ++ Zw.gv u c))) (B := five) (C := Zw.pv z L ++ (Zw.gv z L ++ [.int .u64 ((z / 2 : Nat) : Int), .int .i64 ((z / 2 : Nat) : Int)]) ++ ex) (by rw [hvs]; simp only [List.append_assoc]) (by omega) (by simp only [Zw.p, List.length_append, List.length_cons, List.length_nil, pl, gl]; omega)
  have sP2 : ∀ i, i < 4 * L → m.at_ (Zw.p c + 5 + i) = (Zw.pv z L)[i]? := fun i hi => by
    rw [← hm]
    exact Zw.seg (A := [.int .i64 n0, .int .i64 n1] ++ ([.int .i64 d1, .int .i64 (u : Int), .int .u64 (u : Int)] ++ (Zw.pv u c ++ (Zw.gv u c ++ five)))) (B := Zw.pv z L) (C := Zw.gv z L ++ [.int .u64 ((z / 2 : Nat) : Int), .int .i64 ((z / 2 : Nat) : Int)] ++ ex) (by rw [hvs]; simp only [List.append_assoc]) (by omega) (by simp only [Zw.p, List.length_append, List.length_cons, List.length_nil, pl, gl, h5l]; omega)
  have sG2 : ∀ i, i < 4 * L → m.at_ (Zw.p c + 5 + 4 * L + i) = (Zw.gv z L)[i]? := fun i hi => by
    rw [← hm]
    exact Zw.seg (A := [.int .i64 n0, .int .i64 n1] ++ ([.int .i64 d1, .int .i64 (u : Int), .int .u64 (u : Int)] ++ (Zw.pv u c ++ (Zw.gv u c ++ (five ++ Zw.pv z L))))) (B := Zw.gv z L) (C := [.int .u64 ((z / 2 : Nat) : Int), .int .i64 ((z / 2 : Nat) : Int)] ++ ex) (by rw [hvs]; simp only [List.append_assoc]) (by omega) (by simp only [Zw.p, List.length_append, List.length_cons, List.length_nil, pl, gl, h5l, pl2]; omega)
  have s2 : ∀ i, i < 2 → m.at_ (Zw.q c L + i) = [Value.int .u64 ((z / 2 : Nat) : Int), .int .i64 ((z / 2 : Nat) : Int)][i]? := fun i hi => by
    rw [← hm]
    exact Zw.seg (A := [.int .i64 n0, .int .i64 n1] ++ ([.int .i64 d1, .int .i64 (u : Int), .int .u64 (u : Int)] ++ (Zw.pv u c ++ (Zw.gv u c ++ (five ++ (Zw.pv z L ++ Zw.gv z L)))))) (B := [.int .u64 ((z / 2 : Nat) : Int), .int .i64 ((z / 2 : Nat) : Int)]) (C := ex) (by rw [hvs]; simp only [List.append_assoc]) (by simpa using hi) (by simp only [Zw.q, Zw.p, List.length_append, List.length_cons, List.length_nil, pl, gl, h5l, pl2, gl2]; omega)
  have w0 : m.at_ (Zw.p c) = some (.int .u64 (IntKind.u64.wrap n1)) := by have := s5 0 (by omega); rw [h5] at this; exact this
  have w1 : m.at_ (Zw.p c + 1) = some (.int .u64 (IntKind.u64.wrap (IntKind.u64.wrap n1 * 2))) := by have := s5 1 (by omega); rw [h5] at this; exact this
  have w2 : m.at_ (Zw.p c + 2) = some (.int .i64 (- Zw.sg g)) := by have := s5 2 (by omega); rw [h5] at this; exact this
  have w3 : m.at_ (Zw.p c + 3) = some (.int .u64 (IntKind.u64.wrap (- Zw.sg g))) := by have := s5 3 (by omega); rw [h5] at this; exact this
  have w4 : m.at_ (Zw.p c + 4) = some (.int .u64 (z : Int)) := by have := s5 4 (by omega); rw [h5] at this; exact this
  have q0' : m.at_ (Zw.q c L) = some (.int .u64 ((z / 2 : Nat) : Int)) := s2 0 (by omega)
  have q1' : m.at_ (Zw.q c L + 1) = some (.int .i64 ((z / 2 : Nat) : Int)) := s2 1 (by omega)
  -- the facts
  have hpu : AllHold m (Zw.cat (Zw.putE 1004 1005 c) c) := Zw.putHold b4 (fun i hi => by
    obtain ⟨x0, x1, x2, x3⟩ := pa i hi
    exact ⟨(sP _ (by omega)).trans x0, (sP (4 * i + 1) (by omega)).trans x1, (sP (4 * i + 2) (by omega)).trans x2, (sP (4 * i + 3) (by omega)).trans x3⟩) cd cl
  have hgu : AllHold m (Zw.cat (Zw.getE 1004 1005 (1005 + 4 * c) c) c) := Zw.getHold b4 (by omega) (by omega) (fun i hi => by
    obtain ⟨x0, x1, x2, x3⟩ := pa i hi
    exact ⟨(sP (4 * i + 1) (by omega)).trans x1, (sP (4 * i + 2) (by omega)).trans x2⟩) (fun i hi => by
    obtain ⟨x0, x1, x2, x3⟩ := ga i hi
    exact ⟨(sG _ (by omega)).trans x0, (sG (4 * i + 1) (by omega)).trans x1, (sG (4 * i + 2) (by omega)).trans x2, (sG (4 * i + 3) (by omega)).trans x3⟩) cd cl
  have hpz : AllHold m (Zw.cat (Zw.putE (Zw.p c + 4) (Zw.p c + 5) L) L) := Zw.putHold w4 (fun i hi => by
    obtain ⟨x0, x1, x2, x3⟩ := pa2 i hi
    exact ⟨(sP2 _ (by omega)).trans x0, (sP2 (4 * i + 1) (by omega)).trans x1, (sP2 (4 * i + 2) (by omega)).trans x2, (sP2 (4 * i + 3) (by omega)).trans x3⟩) ld ll
  have hgz : AllHold m (Zw.cat (Zw.getE (Zw.p c + 4) (Zw.p c + 5) (Zw.p c + 5 + 4 * L) L) L) := Zw.getHold w4 hz64 l2 (fun i hi => by
    obtain ⟨x0, x1, x2, x3⟩ := pa2 i hi
    exact ⟨(sP2 (4 * i + 1) (by omega)).trans x1, (sP2 (4 * i + 2) (by omega)).trans x2⟩) (fun i hi => by
    obtain ⟨x0, x1, x2, x3⟩ := ga2 i hi
    exact ⟨(sG2 _ (by omega)).trans x0, (sG2 (4 * i + 1) (by omega)).trans x1, (sG2 (4 * i + 2) (by omega)).trans x2, (sG2 (4 * i + 3) (by omega)).trans x3⟩) ld ll
  have hnes : AllHold m ((Zw.nes c L).map Zw.eN) := Zw.nesHold _ fun x hx => by
    have := List.all_eq_true.1 hC x hx
    split at this
    case h_2 => cases this
    case h_1 k hk =>
    obtain ⟨n, hv, _⟩ := Zw.kdVal hko' hk
    have := hv []
    rw [List.append_nil, hm] at this
    exact ⟨k, n, this⟩
  have hasm' : AllHold m (Zw.asmT (Zw.q c L + 2) (Zw.ins c L)) := by
    rw [hvl] at hasm
    have : 1000 + (12 + 8 * c + 8 * L) = Zw.q c L + 2 := by simp only [Zw.q, Zw.p]; omega
    rw [this] at hasm
    exact hasm
  have hz5 : AllHold m [⟨.conv .u64, ch 1001, .int .i64 0, ch (Zw.p c)⟩, ⟨.bin .shl, ch (Zw.p c), .int .u64 1, ch (Zw.p c + 1)⟩, ⟨.bin .shr, ch 1001, .int .u64 63, ch (Zw.p c + 2)⟩, ⟨.conv .u64, ch (Zw.p c + 2), .int .i64 0, ch (Zw.p c + 3)⟩, ⟨.bin .xor, ch (Zw.p c + 1), ch (Zw.p c + 3), ch (Zw.p c + 4)⟩] := by
    refine ⟨hold_conv (.atom _ _ b1) (.atom _ _ w0) rfl, hold_sh (.atom _ _ w0) (.int _ _) ?_ (.atom _ _ w1), hold_sh (.atom _ _ b1) (.int _ _) ?_ (.atom _ _ w2), hold_conv (.atom _ _ w2) (.atom _ _ w3) rfl, hold_op (.atom _ _ w1) (.atom _ _ w3) ?_ (.atom _ _ w4), trivial⟩
    · simp [intOpX, shiftA, IntKind.bits]
    · have h1 : n1.fdiv 9223372036854775808 = - Zw.sg g := by
        rw [Int.fdiv_eq_ediv_of_nonneg _ (by decide)]
        rcases hz with ⟨rfl, h2, h3⟩ | ⟨rfl, h2, h3⟩
        · simp only [Zw.sg]; omega
        · simp only [Zw.sg]; omega
      simp only [intOpX, shiftA]
      rw [if_neg (by decide)]
      show some (Value.int .i64 (n1.fdiv (2 ^ 63))) = _
      rw [show (2 : Int) ^ 63 = 9223372036854775808 by decide, h1]
    · rcases hz with ⟨rfl, h2, h3⟩ | ⟨rfl, h2, h3⟩
      · rw [Zw.oXor (k := .u64) rfl (a := z) (b := 0) (Zw.bv (by rw [Zw.wu64, Zw.wu64]; omega) hz64) (Zw.bv (by rw [Zw.wu64]; rfl) (by omega))]
        rw [Nat.xor_zero, Zw.wu64, Int.emod_eq_of_lt (by omega) (by omega)]
      · rw [Zw.oXor (k := .u64) rfl (a := 18446744073709551615 - z) (b := 18446744073709551615) (Zw.bv (by rw [Zw.wu64, Zw.wu64]; omega) (by omega)) (Zw.bv (by rw [Zw.wu64]; rfl) (by omega))]
        rw [Zw.xorOnes (by omega), Zw.wu64]
        have : 18446744073709551615 - (18446744073709551615 - z) = z := by omega
        rw [this, Int.emod_eq_of_lt (by omega) (by omega)]
  have hz6 : AllHold m [⟨.bin .shr, ch (Zw.p c + 4), .int .u64 1, ch (Zw.q c L)⟩, ⟨.conv .i64, ch (Zw.q c L), .int .i64 0, ch (Zw.q c L + 1)⟩, ⟨.bin .and, ch (Zw.p c + 4), .int .u64 1, .int .u64 (Zw.sg g)⟩, ⟨.bin .xor, ch (Zw.q c L + 1), .int .i64 (- Zw.sg g), ch 1001⟩, ⟨.bin .eql, ch 1003, ch 1003, .bool true⟩, ⟨.bin .eql, ch 1001, ch 1001, .bool true⟩] := by
    refine ⟨hold_sh (.atom _ _ w4) (.int _ _) (Zw.oShr z 1 1 rfl (by omega)) (.atom _ _ q0'), hold_conv (.atom _ _ q0') (.atom _ _ q1') ?_, hold_op (.atom _ _ w4) (.int _ _) (Zw.oAnd1 z hz64) ?_, hold_op (.atom _ _ q1') (.int _ _) ?_ (.atom _ _ b1), hold_bool (.atom _ _ b3) (.atom _ _ b3) (op_eql_t rfl), hold_bool (.atom _ _ b1) (.atom _ _ b1) (op_eql_t rfl), trivial⟩
    · rw [wrap64 (by omega) (by omega)]
    · have : ((z % 2 : Nat) : Int) = Zw.sg g := by
        rcases hz with ⟨rfl, h2, h3⟩ | ⟨rfl, h2, h3⟩
        · simp only [Zw.sg]; omega
        · simp only [Zw.sg]; omega
      rw [this]; exact .int _ _
    · rcases hz with ⟨rfl, h2, h3⟩ | ⟨rfl, h2, h3⟩
      · rw [Zw.oXor (k := .i64) rfl (x := ((z / 2 : Nat) : Int)) (y := - Zw.sg false) (a := z / 2) (b := 0) (Zw.bv rfl (by omega)) (Zw.bv rfl (by omega))]
        rw [Nat.xor_zero, wrap64 (by omega) (by omega)]
        refine congrArg (fun q => some (Value.int IntKind.i64 q)) ?_
        omega
      · rw [Zw.oXor (k := .i64) rfl (x := ((z / 2 : Nat) : Int)) (y := - Zw.sg true) (a := z / 2) (b := 18446744073709551615) (Zw.bv rfl (by omega)) (Zw.bvN (by simp only [Zw.sg]; omega) (by omega))]
        rw [Zw.xorOnes (by omega), IntKind.wrap_i64]
        refine congrArg (fun q => some (Value.int IntKind.i64 q)) ?_
        omega
  have hold : AllHold m (Zw.T c L g) :=
    Zw.ah_app (a := [_, _, _, _, _, _, _]) ⟨hold_op (.atom _ _ b0) (.int _ _) (o1 .i64) (.atom _ _ b2), hold_op (.atom _ _ b2) (.int _ _) o2 (.atom _ _ b3), hold_bool (.atom _ _ b3) (.int _ _) (op_lss_f (by omega)), hold_bool (.atom _ _ b3) (.int _ _) (op_gtr_f (by omega)),
      hold_conv (.atom _ _ b3) (.atom _ _ b4) (by rw [Zw.wu64]; omega), hold_bool (.atom _ _ b4) (.int _ _) (op_gtr_f (by omega)), hold_conv (.atom _ _ b4) (.atom _ _ b3) (by rw [wrap64 (by omega) (by omega)]), trivial⟩
      (Zw.ah_app hpu (Zw.ah_app hgu (Zw.ah_app hz5 (Zw.ah_app hpz (Zw.ah_app hgz (Zw.ah_app hz6 (Zw.ah_app hasm' hnes)))))))
  have hone : (vs ++ ex).all (·.oneCell') = true := hko'.one
  have hsplit : vs ++ ex = [.int .i64 n0, .int .i64 n1] ++ ((vs ++ ex).drop 2) := by rw [hvs]; rfl
  rw [← hm, hsplit] at hold
  rw [hsplit] at hone
  exact Zw.fx (Zw.T c L g) ((vs ++ ex).drop 2) [] (fun sy => Zw.kS Tryz.m3 sy) hold Zw.i0 rfl hone rowsHold_nil (Zw.rT hc l1 l2 g)
end Go.Proofs
