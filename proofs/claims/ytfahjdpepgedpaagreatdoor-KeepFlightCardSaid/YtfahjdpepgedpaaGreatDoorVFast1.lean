/- The quick operations are the executor's. -/
import Derived.Test.YtfahjdpepgedpaaGreatDoorVFast0
set_option linter.all false
namespace Go.Vsx
open Go
set_option linter.unusedVariables false
set_option linter.unusedSimpArgs false

theorem wrG_eq (k : IntKind) (n : Int) : wrG k n = k.wrap n := by
  cases n with
  | ofNat m =>
    show @Bool.rec (fun _ => Int) (k.wrap (.ofNat m)) (.ofNat m) (Nat.ble m (topK k)) = _
    cases h : Nat.ble m (topK k) with
    | false => rfl
    | true =>
      have hm := Nat.le_of_ble_eq_true h
      show Int.ofNat m = _
      cases k <;> simp only [topK] at hm <;> simp [IntKind.wrap, IntKind.bits, IntKind.signed] <;> omega
  | negSucc m =>
    show @Bool.rec (fun _ => Int) (k.wrap (.negSucc m)) (.negSucc m) (Nat.ble (m + 1) (lowK k)) = _
    cases h : Nat.ble (m + 1) (lowK k) with
    | false => rfl
    | true =>
      have hm := Nat.le_of_ble_eq_true h
      show Int.negSucc m = _
      rw [Int.negSucc_eq]
      cases k <;> simp only [lowK] at hm <;> first
        | (exfalso; omega)
        | (simp only [IntKind.wrap, IntKind.bits, IntKind.signed, Bool.true_and, decide_eq_true_eq, ge_iff_le,
            show (2 : Int) ^ 8 = 256 from rfl, show (2 : Int) ^ (8 - 1) = 128 from rfl, show (2 : Int) ^ 16 = 65536 from rfl, show (2 : Int) ^ (16 - 1) = 32768 from rfl,
            show (2 : Int) ^ 32 = 4294967296 from rfl, show (2 : Int) ^ (32 - 1) = 2147483648 from rfl, show (2 : Int) ^ 64 = 18446744073709551616 from rfl, show (2 : Int) ^ (64 - 1) = 9223372036854775808 from rfl]
           split <;> omega)

theorem subNN_eq (m n : Nat) : subNN m n = (m : Int) - n := by
  unfold subNN
  cases h : Nat.sub n m with
  | zero =>
    have : n - m = 0 := h
    show Int.ofNat (m - n) = _
    simp only [Int.ofNat_eq_natCast]; omega
  | succ j =>
    have : n - m = j + 1 := h
    show Int.negSucc j = _
    rw [Int.negSucc_eq]; omega
theorem addG_eq (a b : Int) : addG a b = a + b := by
  cases a with
  | ofNat m => cases b with
    | ofNat n => rfl
    | negSucc n => show subNN m (n + 1) = _; rw [subNN_eq, Int.negSucc_eq]; simp only [Int.ofNat_eq_natCast]; omega
  | negSucc m => cases b with
    | ofNat n => show subNN n (m + 1) = _; rw [subNN_eq, Int.negSucc_eq]; simp only [Int.ofNat_eq_natCast]; omega
    | negSucc n => rfl
theorem subG_eq (a b : Int) : subG a b = a - b := by
  cases a with
  | ofNat m => cases b with
    | ofNat n => show subNN m n = _; rw [subNN_eq]; rfl
    | negSucc n => show Int.ofNat (m + (n + 1)) = _; rw [Int.negSucc_eq]; simp only [Int.ofNat_eq_natCast]; omega
  | negSucc m => cases b with
    | ofNat n => show Int.negSucc (m + n) = _; rw [Int.negSucc_eq, Int.negSucc_eq]; simp only [Int.ofNat_eq_natCast]; omega
    | negSucc n => show subNN n m = _; rw [subNN_eq, Int.negSucc_eq, Int.negSucc_eq]; omega
theorem negNat_eq (n : Nat) : negNat n = Int.negOfNat n := by cases n <;> rfl
theorem mulG_eq (a b : Int) : mulG a b = a * b := by
  cases a with
  | ofNat m => cases b with
    | ofNat n => rfl
    | negSucc n => show negNat (m * (n + 1)) = _; rw [negNat_eq]; rfl
  | negSucc m => cases b with
    | ofNat n => show negNat ((m + 1) * n) = _; rw [negNat_eq]; rfl
    | negSucc n => rfl
theorem leG_eq (a b : Int) : leG a b = decide (a ≤ b) := by
  cases a with
  | ofNat m => cases b with
    | ofNat n =>
      show Nat.ble m n = _
      rw [Bool.eq_iff_iff, Nat.ble_eq, decide_eq_true_iff]; simp only [Int.ofNat_eq_natCast]; omega
    | negSucc n =>
      show false = _
      rw [eq_comm, decide_eq_false_iff_not, Int.negSucc_eq]; simp only [Int.ofNat_eq_natCast]; omega
  | negSucc m => cases b with
    | ofNat n =>
      show true = _
      rw [eq_comm, decide_eq_true_iff, Int.negSucc_eq]; simp only [Int.ofNat_eq_natCast]; omega
    | negSucc n =>
      show Nat.ble n m = _
      rw [Bool.eq_iff_iff, Nat.ble_eq, decide_eq_true_iff, Int.negSucc_eq, Int.negSucc_eq]; omega
theorem eqG_eq (a b : Int) : eqG a b = (a == b) := by
  cases a with
  | ofNat m => cases b with
    | ofNat n =>
      show Nat.beq m n = _
      rw [Bool.eq_iff_iff, Nat.beq_eq, beq_iff_eq]; simp only [Int.ofNat_eq_natCast]; omega
    | negSucc n =>
      show false = _
      rw [eq_comm, beq_eq_false_iff_ne, Int.negSucc_eq]; simp only [Int.ofNat_eq_natCast]; omega
  | negSucc m => cases b with
    | ofNat n =>
      show false = _
      rw [eq_comm, beq_eq_false_iff_ne, Int.negSucc_eq]; simp only [Int.ofNat_eq_natCast]; omega
    | negSucc n =>
      show Nat.beq m n = _
      rw [Bool.eq_iff_iff, Nat.beq_eq, beq_iff_eq, Int.negSucc_eq, Int.negSucc_eq]; omega

theorem quoG_eq (k : IntKind) (a b : Int) : quoG k a b = intOpA .quo k a b := by
  cases a with
  | ofNat m => cases b with
    | ofNat n => cases n with
      | zero => rfl
      | succ n =>
        show some (Value.int k (wrG k (.ofNat (m / (n + 1))))) = _
        rw [wrG_eq]; rfl
    | negSucc n => rfl
  | negSucc m => rfl
theorem remG_eq (k : IntKind) (a b : Int) : remG k a b = intOpA .rem k a b := by
  cases a with
  | ofNat m => cases b with
    | ofNat n => cases n with
      | zero => rfl
      | succ n => rfl
    | negSucc n => rfl
  | negSucc m => rfl

theorem topK_lt (k : IntKind) : topK k < 2 ^ k.bits := by cases k <;> decide
theorem wrap_top {k : IntKind} {m : Nat} (h : m ≤ topK k) : k.wrap (.ofNat m) = .ofNat m := by
  have hw := wrG_eq k (.ofNat m)
  rw [← hw]
  show @Bool.rec (fun _ => Int) (k.wrap (.ofNat m)) (.ofNat m) (Nat.ble m (topK k)) = _
  rw [Nat.ble_eq_true_of_le h]
theorem topK_pow (k : IntKind) : ∃ e, topK k + 1 = 2 ^ e := by
  cases k
  · exact ⟨7, rfl⟩
  · exact ⟨15, rfl⟩
  · exact ⟨31, rfl⟩
  · exact ⟨63, rfl⟩
  · exact ⟨8, rfl⟩
  · exact ⟨16, rfl⟩
  · exact ⟨32, rfl⟩
  · exact ⟨64, rfl⟩
theorem bitG_eq (op : BinOp) (f : Nat → Nat → Nat) (k : IntKind)
    (hf : ∀ m n, m ≤ topK k → n ≤ topK k → intOpA op k (.ofNat m) (.ofNat n) = some (.int k (.ofNat (f m n)))) (a b : Int) : bitG op f k a b = intOpA op k a b := by
  cases a with
  | ofNat m => cases b with
    | ofNat n =>
      show @Bool.rec (fun _ => Option Value) (intOpA op k (.ofNat m) (.ofNat n)) (some (.int k (.ofNat (f m n)))) (Bool.and (Nat.ble m (topK k)) (Nat.ble n (topK k))) = _
      cases h1 : Nat.ble m (topK k) with
      | false => rfl
      | true => cases h2 : Nat.ble n (topK k) with
        | false => rfl
        | true => exact (hf m n (Nat.le_of_ble_eq_true h1) (Nat.le_of_ble_eq_true h2)).symm
    | negSucc n => rfl
  | negSucc m => rfl
theorem bv_small {k : IntKind} {m : Nat} (h : m ≤ topK k) : (BitVec.ofInt k.bits (.ofNat m)).toNat = m := by
  have := topK_lt k
  rw [Int.ofNat_eq_natCast, BitVec.ofInt_natCast, BitVec.toNat_ofNat, Nat.mod_eq_of_lt (by omega)]
theorem iAnd_eq (k : IntKind) (a b : Int) : iAnd k a b = intOpA .and k a b := by
  apply bitG_eq
  intro m n hm hn
  show some (Value.int k (k.wrap _)) = _
  rw [BitVec.toNat_and, bv_small hm, bv_small hn]
  have : m &&& n ≤ topK k := Nat.le_trans Nat.and_le_left hm
  rw [← Int.ofNat_eq_natCast, wrap_top this]
  rfl
theorem iOr_eq (k : IntKind) (a b : Int) : iOr k a b = intOpA .or k a b := by
  apply bitG_eq
  intro m n hm hn
  show some (Value.int k (k.wrap _)) = _
  rw [BitVec.toNat_or, bv_small hm, bv_small hn]
  obtain ⟨e, he⟩ := topK_pow k
  have : m ||| n < 2 ^ e := Nat.or_lt_two_pow (by omega) (by omega)
  rw [← Int.ofNat_eq_natCast, wrap_top (by omega)]
  rfl
theorem iXor_eq (k : IntKind) (a b : Int) : iXor k a b = intOpA .xor k a b := by
  apply bitG_eq
  intro m n hm hn
  show some (Value.int k (k.wrap _)) = _
  rw [BitVec.toNat_xor, bv_small hm, bv_small hn]
  obtain ⟨e, he⟩ := topK_pow k
  have : m ^^^ n < 2 ^ e := Nat.xor_lt_two_pow (by omega) (by omega)
  rw [← Int.ofNat_eq_natCast, wrap_top (by omega)]
  rfl
theorem sameK_eq (f : IntKind → Int → Int → Option Value) (k k' : IntKind) (a b : Int) : sameK f k k' a b = if k = k' then f k a b else none := by
  cases k <;> cases k' <;> rfl
theorem bitsK_eq (k : IntKind) : bitsK k = k.bits := by cases k <;> rfl
theorem iShl_eq (k k' : IntKind) (a b : Int) : iShl k k' a b = shiftA .shl k a b := by
  cases a with
  | ofNat m => cases b with
    | ofNat n =>
      show @Bool.rec (fun _ => Option Value) (shiftA .shl k (.ofNat m) (.ofNat n)) (some (.int k (wrG k (.ofNat (m * 2 ^ n))))) (Nat.ble n (bitsK k)) = _
      cases h : Nat.ble n (bitsK k) with
      | false => rfl
      | true =>
        have hn := Nat.le_of_ble_eq_true h
        rw [bitsK_eq] at hn
        show some (Value.int k (wrG k (.ofNat (m * 2 ^ n)))) = _
        rw [wrG_eq]
        unfold shiftA
        rw [if_neg (by simp only [Int.ofNat_eq_natCast]; omega)]
        have : min (Int.ofNat n).toNat k.bits = n := by simp only [Int.ofNat_eq_natCast, Int.toNat_natCast]; omega
        simp only [this]
        simp [Int.ofNat_eq_natCast]
    | negSucc n =>
      show none = _
      unfold shiftA
      rw [if_pos (by rw [Int.negSucc_eq]; omega)]
  | negSucc m => rfl
theorem iShr_eq (k k' : IntKind) (a b : Int) : iShr k k' a b = shiftA .shr k a b := by
  cases a with
  | ofNat m => cases b with
    | ofNat n =>
      show @Bool.rec (fun _ => Option Value) (shiftA .shr k (.ofNat m) (.ofNat n)) (some (.int k (.ofNat (m / 2 ^ n)))) (Nat.ble n (bitsK k)) = _
      cases h : Nat.ble n (bitsK k) with
      | false => rfl
      | true =>
        have hn := Nat.le_of_ble_eq_true h
        rw [bitsK_eq] at hn
        show some (Value.int k (.ofNat (m / 2 ^ n))) = _
        unfold shiftA
        rw [if_neg (by simp only [Int.ofNat_eq_natCast]; omega)]
        have : min (Int.ofNat n).toNat k.bits = n := by simp only [Int.ofNat_eq_natCast, Int.toNat_natCast]; omega
        simp only [this]
        have h2 : ((2 : Int) ^ n) = ((2 ^ n : Nat) : Int) := by simp
        rw [h2, Int.ofNat_eq_natCast, Int.ofNat_eq_natCast, Int.fdiv_eq_ediv_of_nonneg _ (Int.natCast_nonneg _)]
        simp
    | negSucc n =>
      show none = _
      unfold shiftA
      rw [if_pos (by rw [Int.negSucc_eq]; omega)]
  | negSucc m => rfl
end Go.Vsx
