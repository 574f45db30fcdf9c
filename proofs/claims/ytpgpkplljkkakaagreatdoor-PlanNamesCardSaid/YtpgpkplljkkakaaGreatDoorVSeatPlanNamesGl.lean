/- The law: what is known of names; hence from its start, for every input. No conditions. -/
import Derived.Test.YtpgpkplljkkakaaGreatDoorVSeatPlanNamesR1
import Derived.Test.YtpgpkplljkkakaaGreatDoorVSeatPlanNamesR2
import Derived.Lib.SplitLaws
set_option linter.all false
namespace Go.Proofs
open Go Go.Vsx Go.RowKit
set_option maxRecDepth 1000000
set_option maxHeartbeats 4000000
set_option linter.unusedVariables false
theorem Zw.fx {W : World} (htab : Zw.Need W) {pt : Pt} {d : Nd} {vals : List Value} {roc : List (List Value)} {j hk : Nat} (t : List SE) (ex : List Value) (rows : List Pl)
    (hok : ∀ sy, okPt (Tryz.Es Zw.mS sy) 8 pt = true) (hold : AllHold (nodeMu 8 rows (vals ++ ex)) t)
    (hid : d.sub 8 roc (idl 8 d.objs) (idA hk) (d.st 8 []) = true) (hlen : hk = vals.length) (hone : (vals ++ ex).all (·.oneCell') = true) (hrow : RowsHold W (nodeMu 8 rows (vals ++ ex)) rows roc)
    (hrun : leafFin (Tryz.Es Zw.mS (syOf t)) Tryz.f5 (fK (Tryz.Es Zw.mS (syOf t)) 100000 100000 pt (d.st 8 roc) j) = true) : NdGood Tryz.prog Tryz.f5 8 Tryz.H0 W pt d vals :=
  NdGood.fin (E := Tryz.Es Zw.mS (syOf t)) (extras := ex) (rows := rows) (by omega) (Zw.rightS (syOf t) _ W htab (symOk_of rfl hold)) (hok _) hid hlen hone hrow hrun
/-! strings of digits -/
def Zs.padL : Nat → Nat → List UInt8
  | 0, _ => []
  | k + 1, n => Zs.padL k (n / 10) ++ [UInt8.ofNat (48 + n % 10)]
theorem Zs.padL_len : ∀ k n, (Zs.padL k n).length = k
  | 0, _ => rfl
  | k + 1, n => by rw [Zs.padL, List.length_append, Zs.padL_len k]; rfl
theorem Zs.padL_zero : ∀ k, Zs.padL k 0 = Lib.repeatL [48] k
  | 0 => rfl
  | k + 1 => by
    rw [Zs.padL, Zs.padL_zero k]
    have : ∀ k, Lib.repeatL [(48 : UInt8)] k ++ [48] = 48 :: Lib.repeatL [48] k := by
      intro k
      induction k with
      | zero => rfl
      | succ k ih => simp only [Lib.repeatL, List.cons_append, List.nil_append, ih]
    exact this k
theorem Zs.rep_len (k : Nat) : (Lib.repeatL [(48 : UInt8)] k).length = k := by rw [Lib.repeatL_length]; simp
theorem Zs.pad_dec : ∀ k n, 1 ≤ k → n < 10 ^ k → 1 ≤ (Lib.decDigits n).length ∧ (Lib.decDigits n).length ≤ k ∧ Lib.repeatL [48] (k - (Lib.decDigits n).length) ++ Lib.decDigits n = Zs.padL k n
  | 0, _, h, _ => by omega
  | k + 1, n, _, h => by
    by_cases hn : n < 10
    · have e : Lib.decDigits n = [UInt8.ofNat (48 + n)] := by rw [Lib.decDigits, dif_pos hn]
      rw [e]
      refine ⟨by simp, by simp, ?_⟩
      rw [Zs.padL, show n / 10 = 0 by omega, show n % 10 = n by omega, Zs.padL_zero]
      rfl
    · have e : Lib.decDigits n = Lib.decDigits (n / 10) ++ [UInt8.ofNat (48 + n % 10)] := by rw [Lib.decDigits, dif_neg hn]
      have hk : 1 ≤ k := by
        cases k with
        | zero => simp at h; omega
        | succ k => omega
      obtain ⟨h1, h2, h3⟩ := Zs.pad_dec k (n / 10) hk (by rw [Nat.pow_succ] at h; omega)
      rw [e]
      simp only [List.length_append, List.length_cons, List.length_nil]
      refine ⟨by omega, by omega, ?_⟩
      rw [show k + 1 - ((Lib.decDigits (n / 10)).length + (0 + 1)) = k - (Lib.decDigits (n / 10)).length by omega, ← List.append_assoc, h3, Zs.padL]
theorem Zs.itoa_nat (n : Nat) : Lib.itoa (n : Int) = Lib.decDigits n := by
  unfold Lib.itoa
  rw [if_neg (by omega), Int.toNat_natCast]
theorem Zs.bl_pre : ∀ (p x y : List UInt8), Op.bytesLess (p ++ x) (p ++ y) = Op.bytesLess x y
  | [], _, _ => rfl
  | a :: p, x, y => by
    simp only [List.cons_append, Op.bytesLess, Zs.bl_pre p x y]
    simp
theorem Zs.bl_lt : ∀ {x y : List UInt8} (r r' : List UInt8), x.length = y.length → Op.bytesLess x y = true → Op.bytesLess (x ++ r) (y ++ r') = true
  | [], [], _, _, _, h => by simp [Op.bytesLess] at h
  | [], _ :: _, _, _, h, _ => by simp at h
  | _ :: _, [], _, _, h, _ => by simp at h
  | a :: x, b :: y, r, r', h, k => by
    simp only [List.cons_append, Op.bytesLess, Bool.or_eq_true, Bool.and_eq_true] at k ⊢
    rcases k with k | ⟨k1, k2⟩
    · exact .inl k
    · exact .inr ⟨k1, Zs.bl_lt r r' (by simpa using h) k2⟩
theorem Zs.bl_self : ∀ x : List UInt8, Op.bytesLess x x = false
  | [] => rfl
  | a :: x => by simp [Op.bytesLess, Zs.bl_self x]
theorem Zs.bl_asym : ∀ {x y : List UInt8}, Op.bytesLess x y = true → Op.bytesLess y x = false
  | [], [], h => by simp [Op.bytesLess] at h
  | [], _ :: _, _ => by simp [Op.bytesLess]
  | _ :: _, [], h => by simp [Op.bytesLess] at h
  | a :: x, b :: y, h => by
    simp only [Op.bytesLess, Bool.or_eq_true, Bool.and_eq_true, decide_eq_true_eq, beq_iff_eq] at h
    simp only [Op.bytesLess, Bool.or_eq_false_iff, Bool.and_eq_false_iff, decide_eq_false_iff_not]
    rcases h with h | ⟨rfl, h⟩
    · refine ⟨fun k => ?_, .inl ?_⟩
      · exact absurd (UInt8.lt_trans h k) (UInt8.lt_irrefl _)
      · simp only [beq_eq_false_iff_ne]; rintro rfl; exact UInt8.lt_irrefl _ h
    · exact ⟨UInt8.lt_irrefl _, .inr (Zs.bl_asym h)⟩
theorem Zs.dig_lt {a b : Nat} (ha : a < 10) (hb : b < 10) : (UInt8.ofNat (48 + a) < UInt8.ofNat (48 + b)) ↔ a < b := by
  rw [UInt8.lt_iff_toNat_lt, UInt8.toNat_ofNat', UInt8.toNat_ofNat']; omega
theorem Zs.bl_pad : ∀ k {u v : Nat}, u < v → v < 10 ^ k → Op.bytesLess (Zs.padL k u) (Zs.padL k v) = true
  | 0, u, v, h, k => by simp at k; omega
  | k + 1, u, v, h, hv => by
    simp only [Zs.padL]
    rw [Nat.pow_succ] at hv
    by_cases e : u / 10 = v / 10
    · rw [e, Zs.bl_pre]
      have : UInt8.ofNat (48 + u % 10) < UInt8.ofNat (48 + v % 10) := (Zs.dig_lt (by omega) (by omega)).2 (by omega)
      show (decide _ || _) = true
      rw [decide_eq_true this]; rfl
    · exact Zs.bl_lt _ _ (by rw [Zs.padL_len, Zs.padL_len]) (Zs.bl_pad k (by omega) (by omega))
theorem Zs.pad_inj {k u v : Nat} (hu : u < 10 ^ k) (hv : v < 10 ^ k) (h : Zs.padL k u = Zs.padL k v) : u = v := by
  rcases Nat.lt_trichotomy u v with q | q | q
  · have := Zs.bl_pad k q hv; rw [h, Zs.bl_self] at this; cases this
  · exact q
  · have := Zs.bl_pad k q hu; rw [h, Zs.bl_self] at this; cases this
def Zs.ba (l : List UInt8) : ByteArray := ⟨l.toArray⟩
theorem Zs.ba_toList (l : List UInt8) : (Zs.ba l).toList = l := by unfold Zs.ba; rw [ByteArray.toList_mk]
theorem Zs.ba_app (a b : List UInt8) : Zs.ba a ++ Zs.ba b = Zs.ba (a ++ b) := by
  apply ByteArray.ext
  simp [Zs.ba]
theorem Zs.ba_size (l : List UInt8) : (Zs.ba l).size = l.length := List.size_toArray
theorem Zs.add_ok {a b c : List UInt8} (h : a ++ b = c) (hl : c.length < 1000) : strOpA .add (Zs.ba a) (Zs.ba b) = some (.string (Zs.ba c)) := by
  have h2 := congrArg List.length h
  rw [List.length_append] at h2
  simp only [strOpA]
  rw [if_pos (by rw [Zs.ba_size, Zs.ba_size]; omega), Zs.ba_app, h]
theorem Zs.lss_ok {a b : List UInt8} {q : Bool} (h : Op.bytesLess a b = q) : strOpA .lss (Zs.ba a) (Zs.ba b) = some (.bool q) := by
  simp only [strOpA, Zs.ba_toList, h]
theorem Zs.eql_ok {a b : List UInt8} {q : Bool} (h : (a == b) = q) : strOpA .eql (Zs.ba a) (Zs.ba b) = some (.bool q) := by
  simp only [strOpA, Zs.ba_toList, h]
theorem Zs.neq_ok {a b : List UInt8} {q : Bool} (h : (!(a == b)) = q) : strOpA .neq (Zs.ba a) (Zs.ba b) = some (.bool q) := by
  simp only [strOpA, Zs.ba_toList, h]
/-! names: cut at their dots, read back -/
theorem Zs.pad_dig : ∀ k n, ∀ x ∈ Zs.padL k n, 48 ≤ x.toNat ∧ x.toNat ≤ 57
  | 0, _, x, hx => by cases hx
  | k + 1, n, x, hx => by
    rw [Zs.padL, List.mem_append, List.mem_singleton] at hx
    rcases hx with hx | rfl
    · exact Zs.pad_dig k _ x hx
    · rw [UInt8.toNat_ofNat']; omega
theorem Zs.nodot {l : List UInt8} (h : ∀ x ∈ l, 48 ≤ x.toNat ∧ x.toNat ≤ 57) : (46 : UInt8) ∉ l := fun hm => by
  have := (h _ hm).1
  exact absurd this (by decide)
theorem Zs.pad_nodot (k n : Nat) : (46 : UInt8) ∉ Zs.padL k n := Zs.nodot (Zs.pad_dig k n)
theorem Zs.parse_app : ∀ (l r : List UInt8) (acc a : Nat), Lib.parseUint10 acc l = .ok a → Lib.parseUint10 acc (l ++ r) = Lib.parseUint10 a r
  | [], r, acc, a, h => by
    simp only [Lib.parseUint10] at h; injection h with h; subst h; rfl
  | c :: l, r, acc, a, h => by
    simp only [List.cons_append, Lib.parseUint10] at h ⊢
    split at h
    case isFalse => cases h
    case isTrue h1 =>
    split at h
    case isTrue => cases h
    case isFalse h2 =>
    split at h
    case isTrue => cases h
    case isFalse h3 =>
    rw [if_pos h1, if_neg h2, if_neg h3]
    exact Zs.parse_app l r _ a h
theorem Zs.parse_pad : ∀ k n, k ≤ 5 → n < 10 ^ k → Lib.parseUint10 0 (Zs.padL k n) = .ok n
  | 0, n, _, h => by
    have : n = 0 := by simpa using h
    subst this; rfl
  | k + 1, n, hk, h => by
    have h5 : n < 100000 := Nat.lt_of_lt_of_le h (Nat.pow_le_pow_right (by omega) hk)
    rw [Nat.pow_succ] at h
    rw [Zs.padL, Zs.parse_app _ _ _ _ (Zs.parse_pad k (n / 10) (by omega) (by omega))]
    have hc : (UInt8.ofNat (48 + n % 10)).toNat = 48 + n % 10 := by rw [UInt8.toNat_ofNat']; omega
    simp only [Lib.parseUint10, hc]
    rw [if_pos (by omega), if_neg (by omega), if_neg (by omega)]
    congr 1; omega
theorem Zs.atoi_pad {k n : Nat} (h1 : 1 ≤ k) (h5 : k ≤ 5) (h : n < 10 ^ k) : atoiV (Zs.padL k n) = (n : Int) := by
  have hp := Zs.parse_pad k n h5 h
  have hd := Zs.pad_dig k n
  have hl := Zs.padL_len k n
  have hn : n < 100000 := Nat.lt_of_lt_of_le h (Nat.pow_le_pow_right (by omega) h5)
  cases hq : Zs.padL k n with
  | nil => rw [hq] at hl; simp at hl; omega
  | cons c r =>
    rw [hq] at hp hd
    have hc := hd c List.mem_cons_self
    have : Lib.atoiAll (c :: r) = .ok (n : Int) := by
      unfold Lib.atoiAll
      simp only []
      rw [if_neg (by omega)]
      unfold Lib.parseMag
      rw [if_neg (by simp), hp]
      simp only []
      rw [if_neg (by omega), if_neg (by omega), if_neg (by omega)]
    unfold atoiV
    rw [this]
theorem Zs.idx_dot : ∀ (p r : List UInt8), (46 : UInt8) ∉ p → Lib.index (p ++ 46 :: r) [46] = (p.length : Int) := by
  intro p r h
  rw [Lib.index_one]
  induction p with
  | nil => rfl
  | cons a p ih =>
    simp only [List.mem_cons, not_or] at h
    have ih := ih h.2
    simp only [List.cons_append, Lib.indexByte]
    rw [if_neg (by simp only [beq_iff_eq]; exact fun e => h.1 e.symm), ih, if_neg (by simp only [beq_iff_eq]; omega)]
    simp
theorem Zs.idx_none (p : List UInt8) (h : (46 : UInt8) ∉ p) : Lib.index p [46] = -1 := by
  rw [Lib.index_one]
  induction p with
  | nil => rfl
  | cons a p ih =>
    simp only [List.mem_cons, not_or] at h
    have ih := ih h.2
    simp only [Lib.indexByte]
    rw [if_neg (by simp only [beq_iff_eq]; exact fun e => h.1 e.symm), ih]; rfl
theorem Zs.splitK_hit {p r : List UInt8} {k : Nat} (h : (46 : UInt8) ∉ p) : Lib.splitK [46] 0 (k + 1) (p ++ 46 :: r) = p :: Lib.splitK [46] 0 k r := by
  have e : Lib.splitK [46] 0 (k + 1) (p ++ 46 :: r) = if Lib.index (p ++ 46 :: r) [46] == -1 then [p ++ 46 :: r] else (p ++ 46 :: r).take ((Lib.index (p ++ 46 :: r) [46]).toNat + 0) :: Lib.splitK [46] 0 k ((p ++ 46 :: r).drop ((Lib.index (p ++ 46 :: r) [46]).toNat + ([46] : List UInt8).length)) := rfl
  rw [e, Zs.idx_dot p r h, if_neg (by simp only [beq_iff_eq]; omega), Int.toNat_natCast, Nat.add_zero, List.take_left' rfl]
  congr 2
  have : p ++ 46 :: r = (p ++ [46]) ++ r := by simp
  rw [this, List.drop_left' (by simp)]
theorem Zs.splitB_of {s : ByteArray} {k : Nat} {ps : List (List UInt8)} (h : Lib.splitK [46] 0 k s.data.toList = ps) : Lib.splitB (Zs.ba [46]) 0 k s = ps.map Zs.ba := by
  have h1 := Lib.splitB_data (Zs.ba [46]) 0 k s
  have h2 : (Zs.ba [46]).data.toList = [46] := rfl
  rw [h2, h] at h1
  have : ∀ (l : List ByteArray), l.map (fun b => Zs.ba b.data.toList) = l := by
    intro l
    induction l with
    | nil => rfl
    | cons a l ih => rw [List.map_cons, ih]; rfl
  rw [← this (Lib.splitB (Zs.ba [46]) 0 k s), ← h1, List.map_map]; rfl
theorem Zs.cnt_of (l : List UInt8) : Lib.countB (Zs.ba l) (Zs.ba [46]) = l.count 46 := by
  show Lib.count l [46] = _
  exact Lib.count_one 46 l
theorem Zs.three {p0 p1 p2 : List UInt8} (h0 : (46 : UInt8) ∉ p0) (h1 : (46 : UInt8) ∉ p1) (h2 : (46 : UInt8) ∉ p2) :
    Lib.countB (Zs.ba (p0 ++ 46 :: (p1 ++ 46 :: p2))) (Zs.ba [46]) = 2 ∧ Lib.splitB (Zs.ba [46]) 0 2 (Zs.ba (p0 ++ 46 :: (p1 ++ 46 :: p2))) = [Zs.ba p0, Zs.ba p1, Zs.ba p2] := by
  refine ⟨?_, ?_⟩
  · rw [Zs.cnt_of]
    simp [List.count_append, List.count_eq_zero_of_not_mem h0, List.count_eq_zero_of_not_mem h1, List.count_eq_zero_of_not_mem h2]
  · refine Zs.splitB_of (ps := [p0, p1, p2]) ?_
    show Lib.splitK [46] 0 2 (p0 ++ 46 :: (p1 ++ 46 :: p2)) = _
    rw [Zs.splitK_hit h0, Zs.splitK_hit h1]; rfl
theorem Zs.four {p0 p1 p2 p3 : List UInt8} (h0 : (46 : UInt8) ∉ p0) (h1 : (46 : UInt8) ∉ p1) (h2 : (46 : UInt8) ∉ p2) (h3 : (46 : UInt8) ∉ p3) :
    Lib.countB (Zs.ba (p0 ++ 46 :: (p1 ++ 46 :: (p2 ++ 46 :: p3)))) (Zs.ba [46]) = 3 ∧ Lib.splitB (Zs.ba [46]) 0 3 (Zs.ba (p0 ++ 46 :: (p1 ++ 46 :: (p2 ++ 46 :: p3)))) = [Zs.ba p0, Zs.ba p1, Zs.ba p2, Zs.ba p3] := by
  refine ⟨?_, ?_⟩
  · rw [Zs.cnt_of]
    simp [List.count_append, List.count_eq_zero_of_not_mem h0, List.count_eq_zero_of_not_mem h1, List.count_eq_zero_of_not_mem h2, List.count_eq_zero_of_not_mem h3]
  · refine Zs.splitB_of (ps := [p0, p1, p2, p3]) ?_
    show Lib.splitK [46] 0 3 (p0 ++ 46 :: (p1 ++ 46 :: (p2 ++ 46 :: p3))) = _
    rw [Zs.splitK_hit h0, Zs.splitK_hit h1, Zs.splitK_hit h2]; rfl
theorem Zs.from1 (c : UInt8) (l : List UInt8) : (Zs.ba (c :: l)).extract 1 (Zs.ba (c :: l)).size = Zs.ba l := by
  apply ByteArray.ext
  apply Array.toList_inj.1
  have := Lib.extract_to_end (Zs.ba (c :: l)) 1
  rw [this]; rfl
theorem Zw.part {p : Nat → Bool} {n k : Nat} (h : ((List.range n).all fun j => p (j + k)) = true) {j : Nat} (h1 : k ≤ j) (h2 : j < k + n) : p j = true := by
  have := List.all_eq_true.1 h (j - k) (List.mem_range.2 (by omega))
  rwa [Nat.sub_add_cancel h1] at this
theorem Zw.row {p : Nat → Bool} (a : ((List.range 12).all fun j => p (j + 0)) = true) (b : ((List.range 12).all fun j => p (j + 12)) = true) (c : ((List.range 12).all fun j => p (j + 24)) = true) (d : ((List.range 11).all fun j => p (j + 36)) = true) {j : Nat} (hj : j < 47) : p j = true := by
  by_cases h1 : j < 12
  · exact Zw.part a (by omega) (by omega)
  by_cases h2 : j < 24
  · exact Zw.part b (by omega) (by omega)
  by_cases h3 : j < 36
  · exact Zw.part c (by omega) (by omega)
  exact Zw.part d (by omega) (by omega)
theorem Zw.rAll {i j : Nat} (hi : i < 12) (hj : j < 47) : Zw.fin (Zw.T i j) = true := by
  rcases (show i = 0 ∨ i = 1 ∨ i = 2 ∨ i = 3 ∨ i = 4 ∨ i = 5 ∨ i = 6 ∨ i = 7 ∨ i = 8 ∨ i = 9 ∨ i = 10 ∨ i = 11 by omega) with rfl | rfl | rfl | rfl | rfl | rfl | rfl | rfl | rfl | rfl | rfl | rfl
  · exact Zw.row (p := fun j => Zw.fin (Zw.T 0 j)) Zw.q0a Zw.q0b Zw.q0c Zw.q0d hj
  · exact Zw.row (p := fun j => Zw.fin (Zw.T 1 j)) Zw.q1a Zw.q1b Zw.q1c Zw.q1d hj
  · exact Zw.row (p := fun j => Zw.fin (Zw.T 2 j)) Zw.q2a Zw.q2b Zw.q2c Zw.q2d hj
  · exact Zw.row (p := fun j => Zw.fin (Zw.T 3 j)) Zw.q3a Zw.q3b Zw.q3c Zw.q3d hj
  · exact Zw.row (p := fun j => Zw.fin (Zw.T 4 j)) Zw.q4a Zw.q4b Zw.q4c Zw.q4d hj
  · exact Zw.row (p := fun j => Zw.fin (Zw.T 5 j)) Zw.q5a Zw.q5b Zw.q5c Zw.q5d hj
  · exact Zw.row (p := fun j => Zw.fin (Zw.T 6 j)) Zw.q6a Zw.q6b Zw.q6c Zw.q6d hj
  · exact Zw.row (p := fun j => Zw.fin (Zw.T 7 j)) Zw.q7a Zw.q7b Zw.q7c Zw.q7d hj
  · exact Zw.row (p := fun j => Zw.fin (Zw.T 8 j)) Zw.q8a Zw.q8b Zw.q8c Zw.q8d hj
  · exact Zw.row (p := fun j => Zw.fin (Zw.T 9 j)) Zw.q9a Zw.q9b Zw.q9c Zw.q9d hj
  · exact Zw.row (p := fun j => Zw.fin (Zw.T 10 j)) Zw.q10a Zw.q10b Zw.q10c Zw.q10d hj
  · exact Zw.row (p := fun j => Zw.fin (Zw.T 11 j)) Zw.q11a Zw.q11b Zw.q11c Zw.q11d hj
def Zw.vS (k u : Nat) : List Value := [.string (Zs.ba (Lib.decDigits u)), .int .i64 ((Lib.decDigits u).length : Int), .int .i64 ((k - (Lib.decDigits u).length : Nat) : Int), .string (Zs.ba (Lib.repeatL [48] (k - (Lib.decDigits u).length))), .string (Zs.ba (Zs.padL k u))]
def Zw.s (l : List UInt8) : Value := .string (Zs.ba l)
def Zw.c (u : Nat) : UInt8 := UInt8.ofNat (48 + u % 10)
def Zw.vD (u : Nat) (l : List UInt8) : List Value := [.int .i64 ((u % 10 : Nat) : Int), .int .i64 ((48 + u % 10 : Nat) : Int), .int .u8 (Zw.c u).toNat, .string (Zs.ba [Zw.c u]), .string (Zs.ba (Zw.c u :: l)), .int .i64 ((u / 10 : Nat) : Int)]
def Zw.x1 (t : Nat) : List UInt8 := [116] ++ Zs.padL 1 t
def Zw.x2 (t : Nat) : List UInt8 := Zw.x1 t ++ [46]
def Zw.x3 (t r : Nat) : List UInt8 := Zw.x2 t ++ Zs.padL 4 r
def Zw.x4 (t r : Nat) : List UInt8 := Zw.x3 t r ++ [46]
def Zw.x5 (t r f : Nat) : List UInt8 := Zw.x4 t r ++ Zs.padL 5 f
def Zw.x6 (t r f : Nat) : List UInt8 := Zw.x5 t r f ++ [46]
def Zw.x7 (t r f u : Nat) : List UInt8 := Zw.x6 t r f ++ Zs.padL 5 u
def Zw.y1 (t : Nat) : List UInt8 := [98] ++ Zs.padL 1 t
def Zw.y2 (t : Nat) : List UInt8 := Zw.y1 t ++ [46]
def Zw.y3 (t r : Nat) : List UInt8 := Zw.y2 t ++ Zs.padL 4 r
def Zw.y4 (t r : Nat) : List UInt8 := Zw.y3 t r ++ [46]
def Zw.y5 (t r u : Nat) : List UInt8 := Zw.y4 t r ++ Zs.padL 5 u
def Zw.vG (t r f u : Nat) : List Value := Zw.vS 1 t ++ (Zw.vS 4 r ++ (Zw.vS 5 f ++ (Zw.vS 5 u ++ (Zw.vD (t) [] ++ (Zw.vD (r) [] ++ (Zw.vD (r / 10) [Zw.c (r)] ++ (Zw.vD (r / 10 / 10) [Zw.c (r / 10), Zw.c (r)] ++ (Zw.vD (r / 10 / 10 / 10) [Zw.c (r / 10 / 10), Zw.c (r / 10), Zw.c (r)] ++ (Zw.vD (f) [] ++ (Zw.vD (f / 10) [Zw.c (f)] ++ (Zw.vD (f / 10 / 10) [Zw.c (f / 10), Zw.c (f)] ++ (Zw.vD (f / 10 / 10 / 10) [Zw.c (f / 10 / 10), Zw.c (f / 10), Zw.c (f)] ++ (Zw.vD (f / 10 / 10 / 10 / 10) [Zw.c (f / 10 / 10 / 10), Zw.c (f / 10 / 10), Zw.c (f / 10), Zw.c (f)] ++ (Zw.vD (u) [] ++ (Zw.vD (u / 10) [Zw.c (u)] ++ (Zw.vD (u / 10 / 10) [Zw.c (u / 10), Zw.c (u)] ++ (Zw.vD (u / 10 / 10 / 10) [Zw.c (u / 10 / 10), Zw.c (u / 10), Zw.c (u)] ++ (Zw.vD (u / 10 / 10 / 10 / 10) [Zw.c (u / 10 / 10 / 10), Zw.c (u / 10 / 10), Zw.c (u / 10), Zw.c (u)] ++ ([Zw.s (Zw.x1 t), Zw.s (Zw.x2 t), Zw.s (Zw.x3 t r), Zw.s (Zw.x4 t r), Zw.s (Zw.x5 t r f), Zw.s (Zw.x6 t r f), Zw.s (Zw.x7 t r f u), Zw.s (Zw.y1 t), Zw.s (Zw.y2 t), Zw.s (Zw.y3 t r), Zw.s (Zw.y4 t r), Zw.s (Zw.y5 t r u)])))))))))))))))))))
theorem Zw.ah_app {m : Mu} {b : List SE} : ∀ {a : List SE}, AllHold m a → AllHold m b → AllHold m (a ++ b)
  | [], _, h2 => h2
  | _ :: _, h1, h2 => ⟨h1.1, Zw.ah_app h1.2 h2⟩
theorem Zw.hold_s {m : Mu} {op : BinOp} {x y r : Value} {s t : ByteArray} {r' : Value} (hx : VR m x (.string s)) (hy : VR m y (.string t)) (h : strOpA op s t = some r') (hr : VR m r r') : SymHolds m (.sbin op) x y r := ⟨s, t, r', hx, hy, h, hr⟩
theorem Zw.ad_hold {m : Mu} {x y : Value} {r : Nat} {a b : List UInt8} (hx : VR m x (.string (Zs.ba a))) (hy : VR m y (.string (Zs.ba b))) (hr : m.at_ r = some (.string (Zs.ba (a ++ b)))) (hl : (a ++ b).length < 1000) : SymHolds m (Zw.ad x y r).op (Zw.ad x y r).x (Zw.ad x y r).y (Zw.ad x y r).r :=
  Zw.hold_s hx hy (Zs.add_ok rfl hl) (.atom _ _ hr)
theorem Zw.num_hold {m : Mu} {z s k u : Nat} (hk : 1 ≤ k) (hk2 : k ≤ 5) (hu : u < 10 ^ k) (hz : m.at_ z = some (.int .i64 (u : Int))) (k2 : m.at_ s = some (.string (Zs.ba (Lib.decDigits u)))) (k3 : m.at_ (s + 1) = some (.int .i64 ((Lib.decDigits u).length : Int)))
    (k4 : m.at_ (s + 2) = some (.int .i64 ((k - (Lib.decDigits u).length : Nat) : Int))) (k5 : m.at_ (s + 3) = some (.string (Zs.ba (Lib.repeatL [48] (k - (Lib.decDigits u).length))))) (k7 : m.at_ (s + 4) = some (.string (Zs.ba (Zs.padL k u)))) : AllHold m (Zw.num z s (k : Int)) := by
  obtain ⟨l1, l2, l3⟩ := Zs.pad_dec k u hk hu
  have hu5 : u < 100000 := Nat.lt_of_lt_of_le hu (Nat.pow_le_pow_right (by omega) hk2)
  refine ⟨⟨(u : Int), .atom _ _ hz, by omega, by omega, by rw [Zs.itoa_nat]; exact .atom _ _ k2⟩, ⟨_, .atom _ _ k2, by rw [Zs.ba_size]; exact .atom _ _ k3⟩, hold_op (.int _ _) (.atom _ _ k3) (op_sub (by omega) (by omega) (by omega)) (.atom _ _ k4),
    hold_mx_l (.atom _ _ k4) (.int _ _) (by omega), ⟨Zs.ba [48], k - (Lib.decDigits u).length, .str _, .atom _ _ k4, by omega, by decide, .atom _ _ k5⟩, Zw.hold_s (.atom _ _ k5) (.atom _ _ k2) (Zs.add_ok l3 (by rw [Zs.padL_len]; omega)) (.atom _ _ k7), trivial⟩
theorem Zw.ln_hold {m : Mu} {s n : Nat} {l : List UInt8} (hs : m.at_ s = some (.string (Zs.ba l))) (h : l.length = n) : SymHolds m (Zw.ln s n).op (Zw.ln s n).x (Zw.ln s n).y (Zw.ln s n).r :=
  ⟨Zs.ba l, .atom _ _ hs, by rw [Zs.ba_size, h]; exact .int _ _⟩
theorem Zw.dg_hold {m : Mu} {z s r u : Nat} {p : Value} {l : List UInt8} (hz : m.at_ z = some (.int .i64 (u : Int))) (hp : VR m p (.string (Zs.ba l))) (hl : l.length < 900) (hu : u < 1000000)
    (h0 : m.at_ s = some (.int .i64 ((u % 10 : Nat) : Int))) (h1 : m.at_ (s + 1) = some (.int .i64 ((48 + u % 10 : Nat) : Int))) (h2 : m.at_ (s + 2) = some (.int .u8 (Zw.c u).toNat)) (h3 : m.at_ (s + 3) = some (.string (Zs.ba [Zw.c u])))
    (h4 : m.at_ r = some (.string (Zs.ba (Zw.c u :: l)))) (h5 : m.at_ (s + 5) = some (.int .i64 ((u / 10 : Nat) : Int))) : AllHold m (Zw.dg z s p r) := by
  refine ⟨hold_op (.atom _ _ hz) (.int _ _) ?_ (.atom _ _ h0), hold_op (.int _ _) (.atom _ _ h0) ?_ (.atom _ _ h1), hold_conv (.atom _ _ h1) (.atom _ _ h2) ?_, ⟨[], Zw.c u, .str _, .atom _ _ h2, .atom _ _ h3⟩, Zw.hold_s (.atom _ _ h3) hp (Zs.add_ok rfl (by simp; omega)) (.atom _ _ h4), hold_op (.atom _ _ hz) (.int _ _) ?_ (.atom _ _ h5), trivial⟩
  · simp only [intOpA]
    rw [if_neg (by decide), Int.tmod_eq_emod_of_nonneg (by omega)]
    rfl
  · simp only [intOpA]
    rw [wrap64 (by omega) (by omega)]
    rfl
  · rw [IntKind.wrap_u8]
    unfold Zw.c
    rw [UInt8.toNat_ofNat']
    omega
  · simp only [intOpA]
    rw [if_neg (by decide)]
    have : ((u : Int).tdiv 10) = ((u / 10 : Nat) : Int) := by
      rw [Int.tdiv_eq_ediv_of_nonneg (by omega)]; rfl
    rw [this, wrap64 (by omega) (by omega)]
theorem Zw.m1 (t : Nat) : (Zw.x1 t).length = 2 := by unfold Zw.x1; rw [List.length_append, Zs.padL_len]; rfl
theorem Zw.m2 (t : Nat) : (Zw.x2 t).length = 3 := by unfold Zw.x2; rw [List.length_append, Zw.m1]; rfl
theorem Zw.m3 (t r : Nat) : (Zw.x3 t r).length = 7 := by unfold Zw.x3; rw [List.length_append, Zw.m2, Zs.padL_len]
theorem Zw.m4 (t r : Nat) : (Zw.x4 t r).length = 8 := by unfold Zw.x4; rw [List.length_append, Zw.m3]; rfl
theorem Zw.m5 (t r f : Nat) : (Zw.x5 t r f).length = 13 := by unfold Zw.x5; rw [List.length_append, Zw.m4, Zs.padL_len]
theorem Zw.m6 (t r f : Nat) : (Zw.x6 t r f).length = 14 := by unfold Zw.x6; rw [List.length_append, Zw.m5]; rfl
theorem Zw.m7 (t r f u : Nat) : (Zw.x7 t r f u).length = 19 := by unfold Zw.x7; rw [List.length_append, Zw.m6, Zs.padL_len]
theorem Zw.l1 (t : Nat) : (Zw.y1 t).length = 2 := by unfold Zw.y1; rw [List.length_append, Zs.padL_len]; rfl
theorem Zw.l2 (t : Nat) : (Zw.y2 t).length = 3 := by unfold Zw.y2; rw [List.length_append, Zw.l1]; rfl
theorem Zw.l3 (t r : Nat) : (Zw.y3 t r).length = 7 := by unfold Zw.y3; rw [List.length_append, Zw.l2, Zs.padL_len]
theorem Zw.l4 (t r : Nat) : (Zw.y4 t r).length = 8 := by unfold Zw.y4; rw [List.length_append, Zw.l3]; rfl
theorem Zw.l5 (t r u : Nat) : (Zw.y5 t r u).length = 13 := by unfold Zw.y5; rw [List.length_append, Zw.l4, Zs.padL_len]
theorem Zw.lt1000 {l : List UInt8} {n : Nat} (h : l.length = n) (k : n < 1000) : l.length < 1000 := by rw [h]; exact k
theorem Zw.gN_hold {m : Mu} {B z0 z1 z2 z3 t r f u : Nat} (hG : ∀ i v, (Zw.vG t r f u)[i]? = some v → m.at_ (B + i) = some v) (ht : t < 10) (hr : r < 10000) (hf : f < 100000) (hu : u < 100000) (k0 : m.at_ z0 = some (.int .i64 (t : Int))) (k1 : m.at_ z1 = some (.int .i64 (r : Int))) (k2 : m.at_ z2 = some (.int .i64 (f : Int))) (k3 : m.at_ z3 = some (.int .i64 (u : Int))) : AllHold m (Zw.gN B z0 z1 z2 z3) :=
  (Zw.ah_app (Zw.num_hold (k := 1) (by omega) (by omega) (by omega) k0 (hG 0 _ rfl) (hG 1 _ rfl) (hG 2 _ rfl) (hG 3 _ rfl) (hG 4 _ rfl)) (Zw.ah_app (Zw.num_hold (k := 4) (by omega) (by omega) (by omega) k1 (hG 5 _ rfl) (hG 6 _ rfl) (hG 7 _ rfl) (hG 8 _ rfl) (hG 9 _ rfl)) (Zw.ah_app (Zw.num_hold (k := 5) (by omega) (by omega) (by omega) k2 (hG 10 _ rfl) (hG 11 _ rfl) (hG 12 _ rfl) (hG 13 _ rfl) (hG 14 _ rfl)) (Zw.ah_app (Zw.num_hold (k := 5) (by omega) (by omega) (by omega) k3 (hG 15 _ rfl) (hG 16 _ rfl) (hG 17 _ rfl) (hG 18 _ rfl) (hG 19 _ rfl)) (Zw.ah_app (Zw.dg_hold (u := t) (l := []) k0 (.str _) (by simp) (by omega) (hG 20 _ rfl) (hG 21 _ rfl) (hG 22 _ rfl) (hG 23 _ rfl) (hG 4 _ rfl) (hG 25 _ rfl)) (Zw.ah_app (Zw.ah_app (Zw.dg_hold (u := r) (l := []) k1 (.str _) (by simp) (by omega) (hG 26 _ rfl) (hG 27 _ rfl) (hG 28 _ rfl) (hG 29 _ rfl) (hG 30 _ rfl) (hG 31 _ rfl)) (Zw.ah_app (Zw.dg_hold (u := r / 10) (l := [Zw.c (r)]) (hG 31 _ rfl) (.atom _ _ (hG 30 _ rfl)) (by simp) (by omega) (hG 32 _ rfl) (hG 33 _ rfl) (hG 34 _ rfl) (hG 35 _ rfl) (hG 36 _ rfl) (hG 37 _ rfl)) (Zw.ah_app (Zw.dg_hold (u := r / 10 / 10) (l := [Zw.c (r / 10), Zw.c (r)]) (hG 37 _ rfl) (.atom _ _ (hG 36 _ rfl)) (by simp) (by omega) (hG 38 _ rfl) (hG 39 _ rfl) (hG 40 _ rfl) (hG 41 _ rfl) (hG 42 _ rfl) (hG 43 _ rfl)) (Zw.dg_hold (u := r / 10 / 10 / 10) (l := [Zw.c (r / 10 / 10), Zw.c (r / 10), Zw.c (r)]) (hG 43 _ rfl) (.atom _ _ (hG 42 _ rfl)) (by simp) (by omega) (hG 44 _ rfl) (hG 45 _ rfl) (hG 46 _ rfl) (hG 47 _ rfl) (hG 9 _ rfl) (hG 49 _ rfl))))) (Zw.ah_app (Zw.ah_app (Zw.dg_hold (u := f) (l := []) k2 (.str _) (by simp) (by omega) (hG 50 _ rfl) (hG 51 _ rfl) (hG 52 _ rfl) (hG 53 _ rfl) (hG 54 _ rfl) (hG 55 _ rfl)) (Zw.ah_app (Zw.dg_hold (u := f / 10) (l := [Zw.c (f)]) (hG 55 _ rfl) (.atom _ _ (hG 54 _ rfl)) (by simp) (by omega) (hG 56 _ rfl) (hG 57 _ rfl) (hG 58 _ rfl) (hG 59 _ rfl) (hG 60 _ rfl) (hG 61 _ rfl)) (Zw.ah_app (Zw.dg_hold (u := f / 10 / 10) (l := [Zw.c (f / 10), Zw.c (f)]) (hG 61 _ rfl) (.atom _ _ (hG 60 _ rfl)) (by simp) (by omega) (hG 62 _ rfl) (hG 63 _ rfl) (hG 64 _ rfl) (hG 65 _ rfl) (hG 66 _ rfl) (hG 67 _ rfl)) (Zw.ah_app (Zw.dg_hold (u := f / 10 / 10 / 10) (l := [Zw.c (f / 10 / 10), Zw.c (f / 10), Zw.c (f)]) (hG 67 _ rfl) (.atom _ _ (hG 66 _ rfl)) (by simp) (by omega) (hG 68 _ rfl) (hG 69 _ rfl) (hG 70 _ rfl) (hG 71 _ rfl) (hG 72 _ rfl) (hG 73 _ rfl)) (Zw.dg_hold (u := f / 10 / 10 / 10 / 10) (l := [Zw.c (f / 10 / 10 / 10), Zw.c (f / 10 / 10), Zw.c (f / 10), Zw.c (f)]) (hG 73 _ rfl) (.atom _ _ (hG 72 _ rfl)) (by simp) (by omega) (hG 74 _ rfl) (hG 75 _ rfl) (hG 76 _ rfl) (hG 77 _ rfl) (hG 14 _ rfl) (hG 79 _ rfl)))))) (Zw.ah_app (Zw.ah_app (Zw.dg_hold (u := u) (l := []) k3 (.str _) (by simp) (by omega) (hG 80 _ rfl) (hG 81 _ rfl) (hG 82 _ rfl) (hG 83 _ rfl) (hG 84 _ rfl) (hG 85 _ rfl)) (Zw.ah_app (Zw.dg_hold (u := u / 10) (l := [Zw.c (u)]) (hG 85 _ rfl) (.atom _ _ (hG 84 _ rfl)) (by simp) (by omega) (hG 86 _ rfl) (hG 87 _ rfl) (hG 88 _ rfl) (hG 89 _ rfl) (hG 90 _ rfl) (hG 91 _ rfl)) (Zw.ah_app (Zw.dg_hold (u := u / 10 / 10) (l := [Zw.c (u / 10), Zw.c (u)]) (hG 91 _ rfl) (.atom _ _ (hG 90 _ rfl)) (by simp) (by omega) (hG 92 _ rfl) (hG 93 _ rfl) (hG 94 _ rfl) (hG 95 _ rfl) (hG 96 _ rfl) (hG 97 _ rfl)) (Zw.ah_app (Zw.dg_hold (u := u / 10 / 10 / 10) (l := [Zw.c (u / 10 / 10), Zw.c (u / 10), Zw.c (u)]) (hG 97 _ rfl) (.atom _ _ (hG 96 _ rfl)) (by simp) (by omega) (hG 98 _ rfl) (hG 99 _ rfl) (hG 100 _ rfl) (hG 101 _ rfl) (hG 102 _ rfl) (hG 103 _ rfl)) (Zw.dg_hold (u := u / 10 / 10 / 10 / 10) (l := [Zw.c (u / 10 / 10 / 10), Zw.c (u / 10 / 10), Zw.c (u / 10), Zw.c (u)]) (hG 103 _ rfl) (.atom _ _ (hG 102 _ rfl)) (by simp) (by omega) (hG 104 _ rfl) (hG 105 _ rfl) (hG 106 _ rfl) (hG 107 _ rfl) (hG 19 _ rfl) (hG 109 _ rfl)))))) ⟨Zw.ad_hold (.str (Zs.ba [116])) (.atom _ _ (hG 4 _ rfl)) (hG 110 _ rfl) (Zw.lt1000 (Zw.m1 ..) (by omega)), Zw.ad_hold (.atom _ _ (hG 110 _ rfl)) (.str (Zs.ba [46])) (hG 111 _ rfl) (Zw.lt1000 (Zw.m2 ..) (by omega)), Zw.ad_hold (.atom _ _ (hG 111 _ rfl)) (.atom _ _ (hG 9 _ rfl)) (hG 112 _ rfl) (Zw.lt1000 (Zw.m3 ..) (by omega)), Zw.ad_hold (.atom _ _ (hG 112 _ rfl)) (.str (Zs.ba [46])) (hG 113 _ rfl) (Zw.lt1000 (Zw.m4 ..) (by omega)), Zw.ad_hold (.atom _ _ (hG 113 _ rfl)) (.atom _ _ (hG 14 _ rfl)) (hG 114 _ rfl) (Zw.lt1000 (Zw.m5 ..) (by omega)), Zw.ad_hold (.atom _ _ (hG 114 _ rfl)) (.str (Zs.ba [46])) (hG 115 _ rfl) (Zw.lt1000 (Zw.m6 ..) (by omega)), Zw.ad_hold (.atom _ _ (hG 115 _ rfl)) (.atom _ _ (hG 19 _ rfl)) (hG 116 _ rfl) (Zw.lt1000 (Zw.m7 ..) (by omega)), Zw.ln_hold (hG 116 _ rfl) (Zw.m7 ..), trivial⟩))))))))
theorem Zw.gB_hold {m : Mu} {B z0 z1 z3 t r f u : Nat} (hG : ∀ i v, (Zw.vG t r f u)[i]? = some v → m.at_ (B + i) = some v) (ht : t < 10) (hr : r < 10000) (hu : u < 100000) (k0 : m.at_ z0 = some (.int .i64 (t : Int))) (k1 : m.at_ z1 = some (.int .i64 (r : Int))) (k3 : m.at_ z3 = some (.int .i64 (u : Int))) : AllHold m (Zw.gB B z0 z1 z3) :=
  (Zw.ah_app (Zw.num_hold (k := 1) (by omega) (by omega) (by omega) k0 (hG 0 _ rfl) (hG 1 _ rfl) (hG 2 _ rfl) (hG 3 _ rfl) (hG 4 _ rfl)) (Zw.ah_app (Zw.num_hold (k := 4) (by omega) (by omega) (by omega) k1 (hG 5 _ rfl) (hG 6 _ rfl) (hG 7 _ rfl) (hG 8 _ rfl) (hG 9 _ rfl)) (Zw.ah_app (Zw.num_hold (k := 5) (by omega) (by omega) (by omega) k3 (hG 15 _ rfl) (hG 16 _ rfl) (hG 17 _ rfl) (hG 18 _ rfl) (hG 19 _ rfl)) (Zw.ah_app (Zw.dg_hold (u := t) (l := []) k0 (.str _) (by simp) (by omega) (hG 20 _ rfl) (hG 21 _ rfl) (hG 22 _ rfl) (hG 23 _ rfl) (hG 4 _ rfl) (hG 25 _ rfl)) (Zw.ah_app (Zw.ah_app (Zw.dg_hold (u := r) (l := []) k1 (.str _) (by simp) (by omega) (hG 26 _ rfl) (hG 27 _ rfl) (hG 28 _ rfl) (hG 29 _ rfl) (hG 30 _ rfl) (hG 31 _ rfl)) (Zw.ah_app (Zw.dg_hold (u := r / 10) (l := [Zw.c (r)]) (hG 31 _ rfl) (.atom _ _ (hG 30 _ rfl)) (by simp) (by omega) (hG 32 _ rfl) (hG 33 _ rfl) (hG 34 _ rfl) (hG 35 _ rfl) (hG 36 _ rfl) (hG 37 _ rfl)) (Zw.ah_app (Zw.dg_hold (u := r / 10 / 10) (l := [Zw.c (r / 10), Zw.c (r)]) (hG 37 _ rfl) (.atom _ _ (hG 36 _ rfl)) (by simp) (by omega) (hG 38 _ rfl) (hG 39 _ rfl) (hG 40 _ rfl) (hG 41 _ rfl) (hG 42 _ rfl) (hG 43 _ rfl)) (Zw.dg_hold (u := r / 10 / 10 / 10) (l := [Zw.c (r / 10 / 10), Zw.c (r / 10), Zw.c (r)]) (hG 43 _ rfl) (.atom _ _ (hG 42 _ rfl)) (by simp) (by omega) (hG 44 _ rfl) (hG 45 _ rfl) (hG 46 _ rfl) (hG 47 _ rfl) (hG 9 _ rfl) (hG 49 _ rfl))))) (Zw.ah_app (Zw.ah_app (Zw.dg_hold (u := u) (l := []) k3 (.str _) (by simp) (by omega) (hG 80 _ rfl) (hG 81 _ rfl) (hG 82 _ rfl) (hG 83 _ rfl) (hG 84 _ rfl) (hG 85 _ rfl)) (Zw.ah_app (Zw.dg_hold (u := u / 10) (l := [Zw.c (u)]) (hG 85 _ rfl) (.atom _ _ (hG 84 _ rfl)) (by simp) (by omega) (hG 86 _ rfl) (hG 87 _ rfl) (hG 88 _ rfl) (hG 89 _ rfl) (hG 90 _ rfl) (hG 91 _ rfl)) (Zw.ah_app (Zw.dg_hold (u := u / 10 / 10) (l := [Zw.c (u / 10), Zw.c (u)]) (hG 91 _ rfl) (.atom _ _ (hG 90 _ rfl)) (by simp) (by omega) (hG 92 _ rfl) (hG 93 _ rfl) (hG 94 _ rfl) (hG 95 _ rfl) (hG 96 _ rfl) (hG 97 _ rfl)) (Zw.ah_app (Zw.dg_hold (u := u / 10 / 10 / 10) (l := [Zw.c (u / 10 / 10), Zw.c (u / 10), Zw.c (u)]) (hG 97 _ rfl) (.atom _ _ (hG 96 _ rfl)) (by simp) (by omega) (hG 98 _ rfl) (hG 99 _ rfl) (hG 100 _ rfl) (hG 101 _ rfl) (hG 102 _ rfl) (hG 103 _ rfl)) (Zw.dg_hold (u := u / 10 / 10 / 10 / 10) (l := [Zw.c (u / 10 / 10 / 10), Zw.c (u / 10 / 10), Zw.c (u / 10), Zw.c (u)]) (hG 103 _ rfl) (.atom _ _ (hG 102 _ rfl)) (by simp) (by omega) (hG 104 _ rfl) (hG 105 _ rfl) (hG 106 _ rfl) (hG 107 _ rfl) (hG 19 _ rfl) (hG 109 _ rfl)))))) ⟨Zw.ad_hold (.str (Zs.ba [98])) (.atom _ _ (hG 4 _ rfl)) (hG 117 _ rfl) (Zw.lt1000 (Zw.l1 ..) (by omega)), Zw.ad_hold (.atom _ _ (hG 117 _ rfl)) (.str (Zs.ba [46])) (hG 118 _ rfl) (Zw.lt1000 (Zw.l2 ..) (by omega)), Zw.ad_hold (.atom _ _ (hG 118 _ rfl)) (.atom _ _ (hG 9 _ rfl)) (hG 119 _ rfl) (Zw.lt1000 (Zw.l3 ..) (by omega)), Zw.ad_hold (.atom _ _ (hG 119 _ rfl)) (.str (Zs.ba [46])) (hG 120 _ rfl) (Zw.lt1000 (Zw.l4 ..) (by omega)), Zw.ad_hold (.atom _ _ (hG 120 _ rfl)) (.atom _ _ (hG 19 _ rfl)) (hG 121 _ rfl) (Zw.lt1000 (Zw.l5 ..) (by omega)), Zw.ln_hold (hG 121 _ rfl) (Zw.l5 ..), trivial⟩))))))
theorem Zw.cb_hold {m : Mu} {op : BinOp} {x : Nat} {a c : Int} {b : Bool} (h : m.at_ x = some (.int .i64 a)) (o : intOpA op .i64 a c = some (.bool b)) : SymHolds m (Zw.cb op x c b).op (Zw.cb op x c b).x (Zw.cb op x c b).y (Zw.cb op x c b).r :=
  hold_bool (.atom _ _ h) (.int _ _) o
theorem Zw.tOk_hold {m : Mu} {z : Nat} {a : Int} (h : m.at_ z = some (.int .i64 a)) (h0 : 0 ≤ a) (h3 : a < 3) : AllHold m (Zw.tOk z) :=
  ⟨Zw.cb_hold h (op_geq_t h0), Zw.cb_hold h (op_lss_f h0), Zw.cb_hold h (op_lss_t h3), Zw.cb_hold h (op_geq_f h3), trivial⟩
theorem Zw.may_hold {m : Mu} {z0 z1 : Nat} {a b : Int} (h0 : m.at_ z0 = some (.int .i64 a)) (h1 : m.at_ z1 = some (.int .i64 b)) :
    ∃ k, (k = 0 ∨ k = 1 ∨ k = 2 ∨ k = 3 ∨ (k = 4 ∧ 0 ≤ a ∧ a < 3 ∧ 1 ≤ b ∧ b ≤ 9999)) ∧ AllHold m (Zw.may z0 z1 k) := by
  by_cases q0 : a < 0
  · exact ⟨0, .inl rfl, Zw.cb_hold h0 (op_geq_f q0), Zw.cb_hold h0 (op_lss_t q0), trivial⟩
  by_cases q1 : 3 ≤ a
  · exact ⟨1, .inr (.inl rfl), Zw.cb_hold h0 (op_geq_t (by omega)), Zw.cb_hold h0 (op_lss_f (by omega)), Zw.cb_hold h0 (op_lss_f q1), Zw.cb_hold h0 (op_geq_t q1), trivial⟩
  by_cases q2 : b < 1
  · exact ⟨2, .inr (.inr (.inl rfl)), Zw.ah_app (Zw.tOk_hold h0 (by omega) (by omega)) ⟨Zw.cb_hold h1 (op_geq_f q2), Zw.cb_hold h1 (op_lss_t q2), trivial⟩⟩
  by_cases q3 : 9999 < b
  · exact ⟨3, .inr (.inr (.inr (.inl rfl))), Zw.ah_app (Zw.tOk_hold h0 (by omega) (by omega)) ⟨Zw.cb_hold h1 (op_geq_t (by omega)), Zw.cb_hold h1 (op_lss_f (by omega)), Zw.cb_hold h1 (op_leq_f q3), Zw.cb_hold h1 (op_gtr_t q3), trivial⟩⟩
  · exact ⟨4, .inr (.inr (.inr (.inr ⟨rfl, by omega, by omega, by omega, by omega⟩))), Zw.ah_app (Zw.tOk_hold h0 (by omega) (by omega)) ⟨Zw.cb_hold h1 (op_geq_t (by omega)), Zw.cb_hold h1 (op_lss_f (by omega)), Zw.cb_hold h1 (op_leq_t (by omega)), Zw.cb_hold h1 (op_gtr_f (by omega)), trivial⟩⟩
theorem Zw.u0_hold {m : Mu} {u : Nat} {a : Int} (h : m.at_ u = some (.int .i64 a)) (q : a < 1) : AllHold m (Zw.u0 u) := ⟨Zw.cb_hold h (op_lss_t q), trivial⟩
theorem Zw.u1_hold {m : Mu} {u : Nat} {a : Int} (h : m.at_ u = some (.int .i64 a)) (q : 10000 < a) : AllHold m (Zw.u1 u) := ⟨Zw.cb_hold h (op_lss_f (by omega)), Zw.cb_hold h (op_gtr_t q), trivial⟩
theorem Zw.u2_hold {m : Mu} {u : Nat} {a : Int} (h : m.at_ u = some (.int .i64 a)) (q : 1 ≤ a) (p : a ≤ 10000) : AllHold m (Zw.u2 u) := ⟨Zw.cb_hold h (op_lss_f (by omega)), Zw.cb_hold h (op_gtr_f p), trivial⟩
theorem Zw.seq_hold {m : Mu} {op : BinOp} {x y : Nat} {a b : List UInt8} {q : Bool} (hx : m.at_ x = some (.string (Zs.ba a))) (hy : m.at_ y = some (.string (Zs.ba b))) (h : strOpA op (Zs.ba a) (Zs.ba b) = some (.bool q)) : SymHolds m (Zw.seq op x y q).op (Zw.seq op x y q).x (Zw.seq op x y q).y (Zw.seq op x y q).r :=
  Zw.hold_s (.atom _ _ hx) (.atom _ _ hy) h (.bool q)
theorem Zw.se_hold {m : Mu} {op : BinOp} {x : Nat} {a : List UInt8} {q : Bool} (hx : m.at_ x = some (.string (Zs.ba a))) (h : strOpA op (Zs.ba a) (Zs.ba []) = some (.bool q)) : SymHolds m (Zw.se op x q).op (Zw.se op x q).x (Zw.se op x q).y (Zw.se op x q).r :=
  Zw.hold_s (.atom _ _ hx) (.str (Zs.ba [])) h (.bool q)
theorem Zw.cnt_hold {m : Mu} {x n : Nat} {l : List UInt8} (hx : m.at_ x = some (.string (Zs.ba l))) (hl : l.length < 1000) (h : Lib.countB (Zs.ba l) (Zs.ba [46]) + 1 = n) : SymHolds m (Zw.cnt x n).op (Zw.cnt x n).x (Zw.cnt x n).y (Zw.cnt x n).r :=
  ⟨Zs.ba l, Zs.ba [46], .atom _ _ hx, .str _, by decide, by rw [Zs.ba_size]; omega, by rw [h]; exact .int _ _⟩
theorem Zw.pc_hold {m : Mu} {x i r : Nat} {l p : List UInt8} (hx : m.at_ x = some (.string (Zs.ba l))) (h : (Lib.splitB (Zs.ba [46]) 0 (Lib.countB (Zs.ba l) (Zs.ba [46])) (Zs.ba l))[i]? = some (Zs.ba p)) (hr : m.at_ r = some (.string (Zs.ba p))) : SymHolds m (Zw.pc x i r).op (Zw.pc x i r).x (Zw.pc x i r).y (Zw.pc x i r).r :=
  ⟨Zs.ba l, Zs.ba [46], Zs.ba p, .atom _ _ hx, .str _, h, .atom _ _ hr⟩
theorem Zw.at_hold {m : Mu} {x r : Nat} {l : List UInt8} {v : Int} (hx : m.at_ x = some (.string (Zs.ba l))) (hl : l.length < 1000) (h : atoiV l = v) (hr : m.at_ r = some (.int .i64 v)) : SymHolds m (Zw.at x r).op (Zw.at x r).x (Zw.at x r).y (Zw.at x r).r :=
  ⟨Zs.ba l, .atom _ _ hx, by rw [Zs.ba_size]; omega, by show VR m _ (.int .i64 (atoiV l)); rw [h]; exact .atom _ _ hr⟩
theorem Zw.ne_hold {m : Mu} {x : Nat} {a : Int} (h : m.at_ x = some (.int .i64 a)) : SymHolds m (Zw.ne x).op (Zw.ne x).x (Zw.ne x).y (Zw.ne x).r := hold_bool (.atom _ _ h) (.atom _ _ h) (op_neq_f rfl)
theorem Zw.sp_hold {m : Mu} {x r t : Nat} {c : UInt8} (hx : m.at_ x = some (.string (Zs.ba (c :: Zs.padL 1 t)))) (hr : m.at_ r = some (.string (Zs.ba (Zs.padL 1 t)))) : AllHold m (Zw.sp x r) := by
  have hs : (Zs.ba (c :: Zs.padL 1 t)).size = 2 := by rw [Zs.ba_size, List.length_cons, Zs.padL_len]
  refine ⟨⟨_, .atom _ _ hx, by rw [hs]; exact .int _ _⟩, ⟨_, .i64, 1, .atom _ _ hx, .int _ _, by omega, by rw [Zs.from1]; exact .atom _ _ hr⟩, trivial⟩
theorem Zw.es_hold {m : Mu} {x : Nat} {l : List UInt8} (hx : m.at_ x = some (.string (Zs.ba l))) (h : l ≠ []) : SymHolds m (Zw.es x).op (Zw.es x).x (Zw.es x).y (Zw.es x).r :=
  Zw.hold_s (.str (Zs.ba [])) (.atom _ _ hx) (Zs.eql_ok (by simp only [beq_eq_false_iff_ne]; exact fun e => h e.symm)) (.bool false)
theorem Zw.y5_eq (t r u : Nat) : Zw.y5 t r u = (98 :: Zs.padL 1 t) ++ 46 :: (Zs.padL 4 r ++ 46 :: Zs.padL 5 u) := by
  simp only [Zw.y5, Zw.y4, Zw.y3, Zw.y2, Zw.y1, List.append_assoc, List.cons_append, List.nil_append]
theorem Zw.x7_eq (t r f u : Nat) : Zw.x7 t r f u = (116 :: Zs.padL 1 t) ++ 46 :: (Zs.padL 4 r ++ 46 :: (Zs.padL 5 f ++ 46 :: Zs.padL 5 u)) := by
  simp only [Zw.x7, Zw.x6, Zw.x5, Zw.x4, Zw.x3, Zw.x2, Zw.x1, List.append_assoc, List.cons_append, List.nil_append]
theorem Zw.nd (c : UInt8) (hc : c ≠ 46) (t : Nat) : (46 : UInt8) ∉ c :: Zs.padL 1 t := by
  rw [List.mem_cons, not_or]; exact ⟨hc.symm, Zs.pad_nodot 1 t⟩
theorem Zw.ne_nil {l : List UInt8} {n : Nat} (h : l.length = n) (hn : 0 < n) : l ≠ [] := by rintro rfl; simp at h; omega
theorem Zw.rB_hold {m : Mu} {t r f u : Nat} (hG : ∀ i v, (Zw.vG t r f u)[i]? = some v → m.at_ (1008 + i) = some v) (ht : t < 10) (hr : r < 10000) (hu : u < 100000) (k0 : m.at_ 1000 = some (.int .i64 (t : Int))) (k1 : m.at_ 1001 = some (.int .i64 (r : Int))) (k3 : m.at_ 1003 = some (.int .i64 (u : Int))) : AllHold m Zw.rB := by
  obtain ⟨c1, c2⟩ := Zs.three (Zw.nd 98 (by decide) t) (Zs.pad_nodot 4 r) (Zs.pad_nodot 5 u)
  rw [← Zw.y5_eq] at c1 c2
  have h121 := hG 121 (.string (Zs.ba (Zw.y5 t r u))) rfl
  have h117 := hG 117 (.string (Zs.ba (98 :: Zs.padL 1 t))) rfl
  have h4 := hG 4 (.string (Zs.ba (Zs.padL 1 t))) rfl
  have h9 := hG 9 (.string (Zs.ba (Zs.padL 4 r))) rfl
  have h19 := hG 19 (.string (Zs.ba (Zs.padL 5 u))) rfl
  have ne := Zw.ne_nil (Zw.l5 t r u) (by omega)
  refine Zw.ah_app (a := [_, _, _, _, _, _]) ⟨Zw.cnt_hold h121 (by rw [Zw.l5]; omega) (by rw [c1]), Zw.pc_hold h121 (by rw [c1, c2]; rfl) h117, Zw.pc_hold h121 (by rw [c1, c2]; rfl) h9, Zw.pc_hold h121 (by rw [c1, c2]; rfl) h19, Zw.se_hold h121 (Zs.eql_ok (by simp only [beq_eq_false_iff_ne]; exact ne)), Zw.se_hold h121 (Zs.neq_ok (by simp only [Bool.not_eq_true', beq_eq_false_iff_ne]; exact ne)), trivial⟩
    (Zw.ah_app (Zw.sp_hold h117 h4) ⟨Zw.at_hold h4 (by rw [Zs.padL_len]; omega) (Zs.atoi_pad (by omega) (by omega) (by omega)) k0, Zw.at_hold h9 (by rw [Zs.padL_len]; omega) (Zs.atoi_pad (by omega) (by omega) (by omega)) k1, Zw.at_hold h19 (by rw [Zs.padL_len]; omega) (Zs.atoi_pad (by omega) (by omega) (by omega)) k3,
      Zw.seq_hold h121 h121 (Zs.eql_ok (by simp)), Zw.seq_hold h121 h121 (Zs.neq_ok (by simp)), Zw.ne_hold k0, Zw.ne_hold k1, Zw.ne_hold k3, trivial⟩)
theorem Zw.rN_hold {m : Mu} {t r f u : Nat} (hG : ∀ i v, (Zw.vG t r f u)[i]? = some v → m.at_ (1008 + i) = some v) (ht : t < 10) (hr : r < 10000) (hf : f < 100000) (hu : u < 100000) (k0 : m.at_ 1000 = some (.int .i64 (t : Int))) (k1 : m.at_ 1001 = some (.int .i64 (r : Int))) (k2 : m.at_ 1002 = some (.int .i64 (f : Int))) (k3 : m.at_ 1003 = some (.int .i64 (u : Int))) : AllHold m Zw.rN := by
  obtain ⟨c1, c2⟩ := Zs.four (Zw.nd 116 (by decide) t) (Zs.pad_nodot 4 r) (Zs.pad_nodot 5 f) (Zs.pad_nodot 5 u)
  rw [← Zw.x7_eq] at c1 c2
  have h116 := hG 116 (.string (Zs.ba (Zw.x7 t r f u))) rfl
  have h110 := hG 110 (.string (Zs.ba (116 :: Zs.padL 1 t))) rfl
  have h4 := hG 4 (.string (Zs.ba (Zs.padL 1 t))) rfl
  have h9 := hG 9 (.string (Zs.ba (Zs.padL 4 r))) rfl
  have h14 := hG 14 (.string (Zs.ba (Zs.padL 5 f))) rfl
  have h19 := hG 19 (.string (Zs.ba (Zs.padL 5 u))) rfl
  have ne := Zw.ne_nil (Zw.m7 t r f u) (by omega)
  refine Zw.ah_app (a := [_, _, _, _, _, _, _]) ⟨Zw.cnt_hold h116 (by rw [Zw.m7]; omega) (by rw [c1]), Zw.pc_hold h116 (by rw [c1, c2]; rfl) h110, Zw.pc_hold h116 (by rw [c1, c2]; rfl) h9, Zw.pc_hold h116 (by rw [c1, c2]; rfl) h14, Zw.pc_hold h116 (by rw [c1, c2]; rfl) h19, Zw.se_hold h116 (Zs.eql_ok (by simp only [beq_eq_false_iff_ne]; exact ne)), Zw.se_hold h116 (Zs.neq_ok (by simp only [Bool.not_eq_true', beq_eq_false_iff_ne]; exact ne)), trivial⟩
    (Zw.ah_app (Zw.sp_hold h110 h4) ⟨Zw.at_hold h4 (by rw [Zs.padL_len]; omega) (Zs.atoi_pad (by omega) (by omega) (by omega)) k0, Zw.at_hold h9 (by rw [Zs.padL_len]; omega) (Zs.atoi_pad (by omega) (by omega) (by omega)) k1, Zw.at_hold h14 (by rw [Zs.padL_len]; omega) (Zs.atoi_pad (by omega) (by omega) (by omega)) k2, Zw.at_hold h19 (by rw [Zs.padL_len]; omega) (Zs.atoi_pad (by omega) (by omega) (by omega)) k3,
      Zw.seq_hold h116 h116 (Zs.eql_ok (by simp)), Zw.seq_hold h116 h116 (Zs.neq_ok (by simp)), Zw.ne_hold k0, Zw.ne_hold k1, Zw.ne_hold k2, Zw.ne_hold k3, trivial⟩)
/-- The numbers: one of twelve shapes. -/
theorem Zw.first_ {m : Mu} {n0 n1 n2 n3 : Int} (hG : ∀ i v, (Zw.vG n0.toNat n1.toNat n2.toNat n3.toNat)[i]? = some v → m.at_ (1008 + i) = some v) (k0 : m.at_ 1000 = some (.int .i64 n0)) (k1 : m.at_ 1001 = some (.int .i64 n1)) (k2 : m.at_ 1002 = some (.int .i64 n2)) (k3 : m.at_ 1003 = some (.int .i64 n3)) : ∃ i, i < 12 ∧ AllHold m (Zw.F i) := by
  obtain ⟨k, hk, hm⟩ := Zw.may_hold k0 k1
  rcases hk with rfl | rfl | rfl | rfl | ⟨rfl, a1, a2, a3, a4⟩
  · exact ⟨0, by omega, hm⟩
  · exact ⟨1, by omega, hm⟩
  · exact ⟨2, by omega, hm⟩
  · exact ⟨3, by omega, hm⟩
  have e0 : n0 = ((n0.toNat : Nat) : Int) := by omega
  have e1 : n1 = ((n1.toNat : Nat) : Int) := by omega
  have K0 : m.at_ 1000 = some (.int .i64 ((n0.toNat : Nat) : Int)) := by rw [← e0]; exact k0
  have K1 : m.at_ 1001 = some (.int .i64 ((n1.toNat : Nat) : Int)) := by rw [← e1]; exact k1
  have uf : ∀ b, intOpA .lss .i64 n3 n2 = some (.bool b) → SymHolds m (Zw.uf 1003 1002 b).op (Zw.uf 1003 1002 b).x (Zw.uf 1003 1002 b).y (Zw.uf 1003 1002 b).r := fun b h => hold_bool (.atom _ _ k3) (.atom _ _ k2) h
  have hB : 1 ≤ n3 → n3 ≤ 10000 → AllHold m Zw.fB := fun q1 q2 => by
    have K3 : m.at_ 1003 = some (.int .i64 ((n3.toNat : Nat) : Int)) := by rw [show ((n3.toNat : Nat) : Int) = n3 by omega]; exact k3
    exact Zw.ah_app (Zw.gB_hold hG (by omega) (by omega) (by omega) K0 K1 K3) (Zw.rB_hold hG (by omega) (by omega) (by omega) K0 K1 K3)
  by_cases q1 : n2 < 1
  · have g := Zw.cb_hold (op := .lss) (c := 1) k2 (op_lss_t q1)
    by_cases q2 : n3 < 1
    · exact ⟨4, by omega, Zw.ah_app hm ⟨g, Zw.u0_hold k3 q2⟩⟩
    by_cases q3 : 10000 < n3
    · exact ⟨5, by omega, Zw.ah_app hm ⟨g, Zw.u1_hold k3 q3⟩⟩
    · exact ⟨6, by omega, Zw.ah_app hm ⟨g, Zw.ah_app (Zw.u2_hold k3 (by omega) (by omega)) (hB (by omega) (by omega))⟩⟩
  have g := Zw.cb_hold (op := .lss) (c := 1) k2 (op_lss_f (by omega))
  by_cases q4 : n3 < n2
  · have g2 := uf true (op_lss_t q4)
    by_cases q2 : n3 < 1
    · exact ⟨7, by omega, Zw.ah_app hm ⟨g, g2, Zw.u0_hold k3 q2⟩⟩
    by_cases q3 : 10000 < n3
    · exact ⟨8, by omega, Zw.ah_app hm ⟨g, g2, Zw.u1_hold k3 q3⟩⟩
    · exact ⟨9, by omega, Zw.ah_app hm ⟨g, g2, Zw.ah_app (Zw.u2_hold k3 (by omega) (by omega)) (hB (by omega) (by omega))⟩⟩
  have g2 := uf false (op_lss_f (by omega))
  by_cases q3 : 10000 < n3
  · exact ⟨10, by omega, Zw.ah_app hm ⟨g, g2, Zw.u1_hold k3 q3⟩⟩
  have K2 : m.at_ 1002 = some (.int .i64 ((n2.toNat : Nat) : Int)) := by rw [show ((n2.toNat : Nat) : Int) = n2 by omega]; exact k2
  have K3 : m.at_ 1003 = some (.int .i64 ((n3.toNat : Nat) : Int)) := by rw [show ((n3.toNat : Nat) : Int) = n3 by omega]; exact k3
  exact ⟨11, by omega, Zw.ah_app hm ⟨g, g2, Zw.ah_app (Zw.u2_hold k3 (by omega) (by omega)) (Zw.ah_app (hB (by omega) (by omega)) (Zw.ah_app (Zw.gN_hold hG (by omega) (by omega) (by omega) (by omega) K0 K1 K2 K3) (Zw.rN_hold hG (by omega) (by omega) (by omega) (by omega) K0 K1 K2 K3)))⟩⟩
theorem Zw.blt_t {a b : Nat} (h : a < b) : Nat.blt a b = true := by unfold Nat.blt; rw [Nat.ble_eq]; exact h
theorem Zw.blt_f {a b : Nat} (h : ¬ a < b) : Nat.blt a b = false := by
  cases hb : Nat.blt a b with
  | false => rfl
  | true => exact absurd (Nat.le_of_ble_eq_true hb) h
theorem Zw.S_big (k : Nat) (h : k < 27) : Zw.S (k + 3) = Zw.Sx (k + 5) := by
  show (bif Nat.blt (k + 2) 2 then Zw.Sx (k + 2 + 1) else bif Nat.blt (k + 2) 29 then Zw.Sx (k + 2 + 3) else bif Nat.blt (k + 2) 37 then Zw.P3 ++ Zw.S3 (k + 2 - 29) else Zw.P4 ++ Zw.S4 (k + 2 - 37)) = _
  rw [Zw.blt_f (by omega), Zw.blt_t (by omega)]; rfl
theorem Zw.drop_of (a : List UInt8) (n : Nat) : (Zs.ba a).extract n (Zs.ba a).size = Zs.ba (a.drop n) := by
  apply ByteArray.ext
  apply Array.toList_inj.1
  exact Lib.extract_to_end (Zs.ba a) n
theorem Zw.take_of (a : List UInt8) (n : Nat) : (Zs.ba a).extract 0 n = Zs.ba (a.take n) := by
  apply ByteArray.ext
  apply Array.toList_inj.1
  exact Lib.extract_from_zero (Zs.ba a) n
theorem Zw.piece_le (sep : ByteArray) : ∀ (k : Nat) (s x : ByteArray), x ∈ Lib.splitB sep 0 k s → x.size ≤ s.size
  | 0, s, x, h => by
    rw [Lib.splitB_zero, List.mem_singleton] at h; rw [h]; exact Nat.le_refl _
  | k + 1, s, x, h => by
    unfold Lib.splitB at h
    split at h
    · rw [List.mem_singleton] at h; rw [h]; exact Nat.le_refl _
    · rcases List.mem_cons.1 h with rfl | h
      · rw [ByteArray.size_extract]; omega
      · have := Zw.piece_le sep k _ x h
        rw [ByteArray.size_extract] at this; omega
theorem Zw.P0_hold {m : Mu} {a0 a1 a3 : List UInt8} (l0 : a0.length < 1000) (l1 : a1.length < 1000) (l3 : a3.length < 1000) (h0 : m.at_ 1130 = some (.string (Zs.ba a0))) (h1 : m.at_ 1131 = some (.string (Zs.ba a1))) (h3 : m.at_ 1133 = some (.string (Zs.ba a3))) (h4 : m.at_ 1134 = some (.int .i64 (a0.length : Int))) (h5 : m.at_ 1135 = some (.int .i64 ((min a0.length 1 : Nat) : Int))) (h6 : m.at_ 1136 = some (.string (Zs.ba (a0.drop (min a0.length 1)))))
    (h7 : m.at_ 1137 = some (.int .i64 (atoiV (a0.drop (min a0.length 1))))) (h8 : m.at_ 1138 = some (.int .i64 (atoiV a1))) (h9 : m.at_ 1140 = some (.int .i64 (atoiV a3))) : AllHold m Zw.P0 := by
  have e : (if (1 : Int) < (a0.length : Int) then (1 : Int) else (a0.length : Int)) = ((min a0.length 1 : Nat) : Int) := by split <;> omega
  refine ⟨⟨_, .atom _ _ h0, by rw [Zs.ba_size]; exact .atom _ _ h4⟩, ⟨.i64, _, 1, .atom _ _ h4, .int _ _, by rw [e]; exact .atom _ _ h5⟩, ⟨_, .i64, min a0.length 1, .atom _ _ h0, .atom _ _ h5, by rw [Zs.ba_size]; omega, by rw [Zw.drop_of]; exact .atom _ _ h6⟩, Zw.at_hold h6 (by rw [List.length_drop]; omega) rfl h7, Zw.at_hold h1 l1 rfl h8, Zw.at_hold h3 l3 rfl h9, trivial⟩
/-- The string: one of forty-seven shapes. -/
theorem Zw.second_ {m : Mu} {l a0 a1 a2 a3 : List UInt8} {A C F D : Int} (hl : l.length ≤ 30) (l0 : a0.length < 1000) (l1 : a1.length < 1000) (l2 : a2.length < 1000) (l3 : a3.length < 1000) (h : m.at_ 1007 = some (.string (Zs.ba l)))
    (p3 : (Lib.splitB (Zs.ba [46]) 0 (Lib.countB (Zs.ba l) (Zs.ba [46])) (Zs.ba l)).length = 3 → (Lib.splitB (Zs.ba [46]) 0 (Lib.countB (Zs.ba l) (Zs.ba [46])) (Zs.ba l))[0]? = some (Zs.ba a0) ∧ (Lib.splitB (Zs.ba [46]) 0 (Lib.countB (Zs.ba l) (Zs.ba [46])) (Zs.ba l))[1]? = some (Zs.ba a1) ∧ (Lib.splitB (Zs.ba [46]) 0 (Lib.countB (Zs.ba l) (Zs.ba [46])) (Zs.ba l))[2]? = some (Zs.ba a3))
    (p4 : (Lib.splitB (Zs.ba [46]) 0 (Lib.countB (Zs.ba l) (Zs.ba [46])) (Zs.ba l)).length = 4 → (Lib.splitB (Zs.ba [46]) 0 (Lib.countB (Zs.ba l) (Zs.ba [46])) (Zs.ba l))[0]? = some (Zs.ba a0) ∧ (Lib.splitB (Zs.ba [46]) 0 (Lib.countB (Zs.ba l) (Zs.ba [46])) (Zs.ba l))[1]? = some (Zs.ba a1) ∧ (Lib.splitB (Zs.ba [46]) 0 (Lib.countB (Zs.ba l) (Zs.ba [46])) (Zs.ba l))[2]? = some (Zs.ba a2) ∧ (Lib.splitB (Zs.ba [46]) 0 (Lib.countB (Zs.ba l) (Zs.ba [46])) (Zs.ba l))[3]? = some (Zs.ba a3))
    (h0 : m.at_ 1130 = some (.string (Zs.ba a0))) (h1 : m.at_ 1131 = some (.string (Zs.ba a1))) (h2 : m.at_ 1132 = some (.string (Zs.ba a2))) (h3 : m.at_ 1133 = some (.string (Zs.ba a3))) (h4 : m.at_ 1134 = some (.int .i64 (a0.length : Int))) (h5 : m.at_ 1135 = some (.int .i64 ((min a0.length 1 : Nat) : Int))) (h6 : m.at_ 1136 = some (.string (Zs.ba (a0.drop (min a0.length 1)))))
    (h7 : m.at_ 1137 = some (.int .i64 A)) (h8 : m.at_ 1138 = some (.int .i64 C)) (h9 : m.at_ 1139 = some (.int .i64 F)) (h10 : m.at_ 1140 = some (.int .i64 D)) (eA : atoiV (a0.drop (min a0.length 1)) = A) (eC : atoiV a1 = C) (eF : atoiV a2 = F) (eD : atoiV a3 = D)
    (hG : ∀ i v, (Zw.vG A.toNat C.toNat F.toNat D.toNat)[i]? = some v → m.at_ (1141 + i) = some v) : ∃ j, j < 47 ∧ AllHold m (Zw.S j) := by
  by_cases hn : l = []
  · subst hn
    exact ⟨0, by omega, Zw.se_hold h (Zs.eql_ok (by simp)), Zw.cnt_hold h (by simp) (by rw [Zs.cnt_of]; rfl), trivial⟩
  have e := Zw.se_hold (op := .eql) (q := false) h (Zs.eql_ok (by simp only [beq_eq_false_iff_ne]; exact hn))
  have es := Zw.es_hold h hn
  have hlen := Lib.splitB_all (Zs.ba [46]) (by decide) 0 _ (Zs.ba l) rfl
  have hle := Lib.countB_le (Zs.ba [46]) (by decide) _ (Zs.ba l) (Nat.le_refl _)
  rw [Zs.ba_size] at hle
  obtain ⟨N, hN⟩ : ∃ N, N = Lib.countB (Zs.ba l) (Zs.ba [46]) := ⟨_, rfl⟩
  have hP0 := Zw.P0_hold l0 l1 l3 h0 h1 h3 h4 h5 h6 (by rw [eA]; exact h7) (by rw [eC]; exact h8) (by rw [eD]; exact h10)
  by_cases n0 : N = 0
  · exact ⟨1, by omega, e, Zw.cnt_hold (n := 1) h (by omega) (by omega), trivial⟩
  by_cases n1 : N = 1
  · exact ⟨2, by omega, e, Zw.cnt_hold (n := 2) h (by omega) (by omega), trivial⟩
  by_cases n4 : 4 ≤ N
  · obtain ⟨k, hk⟩ : ∃ k, N = k + 4 := ⟨N - 4, by omega⟩
    refine ⟨k + 3, by omega, ?_⟩
    rw [Zw.S_big k (by omega)]
    exact ⟨e, Zw.cnt_hold (n := k + 5) h (by omega) (by omega), trivial⟩
  obtain ⟨k, hk, hm⟩ := Zw.may_hold h7 h8
  have K7 : 0 ≤ A → m.at_ 1137 = some (.int .i64 ((A.toNat : Nat) : Int)) := fun q => by rw [show ((A.toNat : Nat) : Int) = A by omega]; exact h7
  have K8 : 0 ≤ C → m.at_ 1138 = some (.int .i64 ((C.toNat : Nat) : Int)) := fun q => by rw [show ((C.toNat : Nat) : Int) = C by omega]; exact h8
  have K10 : 0 ≤ D → m.at_ 1140 = some (.int .i64 ((D.toNat : Nat) : Int)) := fun q => by rw [show ((D.toNat : Nat) : Int) = D by omega]; exact h10
  by_cases n2 : N = 2
  · obtain ⟨g0, g1, g2⟩ := p3 (by omega)
    have hP : AllHold m Zw.P3 := ⟨e, Zw.cnt_hold (n := 3) h (by omega) (by omega), Zw.pc_hold h g0 h0, Zw.pc_hold h g1 h1, Zw.pc_hold h g2 h3, hP0⟩
    rcases hk with rfl | rfl | rfl | rfl | ⟨rfl, b1, b2, b3, b4⟩
    · exact ⟨30, by omega, Zw.ah_app hP (Zw.ah_app hm ⟨es, trivial⟩)⟩
    · exact ⟨31, by omega, Zw.ah_app hP (Zw.ah_app hm ⟨es, trivial⟩)⟩
    · exact ⟨32, by omega, Zw.ah_app hP (Zw.ah_app hm ⟨es, trivial⟩)⟩
    · exact ⟨33, by omega, Zw.ah_app hP (Zw.ah_app hm ⟨es, trivial⟩)⟩
    by_cases d1 : D < 1
    · exact ⟨34, by omega, Zw.ah_app hP (Zw.ah_app hm (Zw.ah_app (Zw.u0_hold h10 d1) ⟨es, trivial⟩))⟩
    by_cases d2 : 10000 < D
    · exact ⟨35, by omega, Zw.ah_app hP (Zw.ah_app hm (Zw.ah_app (Zw.u1_hold h10 d2) ⟨es, trivial⟩))⟩
    have hu := Zw.u2_hold h10 (by omega) (by omega)
    have hg := Zw.gB_hold hG (by omega) (by omega) (by omega) (K7 b1) (K8 (by omega)) (K10 (by omega))
    have hX := hG 121 (.string (Zs.ba (Zw.y5 A.toNat C.toNat D.toNat))) rfl
    by_cases q : Zw.y5 A.toNat C.toNat D.toNat = l
    · exact ⟨37, by omega, Zw.ah_app hP (Zw.ah_app hm (Zw.ah_app hu (Zw.ah_app hg ⟨Zw.seq_hold hX h (Zs.eql_ok (by simp [q])), Zw.seq_hold h hX (Zs.eql_ok (by simp [q])), trivial⟩)))⟩
    · exact ⟨36, by omega, Zw.ah_app hP (Zw.ah_app hm (Zw.ah_app hu (Zw.ah_app hg ⟨Zw.seq_hold hX h (Zs.eql_ok (by simp only [beq_eq_false_iff_ne]; exact q)), trivial⟩)))⟩
  · obtain ⟨g0, g1, g2, g3⟩ := p4 (by omega)
    have hP : AllHold m Zw.P4 := ⟨e, Zw.cnt_hold (n := 4) h (by omega) (by omega), Zw.pc_hold h g0 h0, Zw.pc_hold h g1 h1, Zw.pc_hold h g2 h2, Zw.pc_hold h g3 h3, Zw.at_hold h2 l2 eF h9, hP0⟩
    rcases hk with rfl | rfl | rfl | rfl | ⟨rfl, b1, b2, b3, b4⟩
    · exact ⟨38, by omega, Zw.ah_app hP (Zw.ah_app hm ⟨es, trivial⟩)⟩
    · exact ⟨39, by omega, Zw.ah_app hP (Zw.ah_app hm ⟨es, trivial⟩)⟩
    · exact ⟨40, by omega, Zw.ah_app hP (Zw.ah_app hm ⟨es, trivial⟩)⟩
    · exact ⟨41, by omega, Zw.ah_app hP (Zw.ah_app hm ⟨es, trivial⟩)⟩
    by_cases f1 : F < 1
    · exact ⟨42, by omega, Zw.ah_app hP (Zw.ah_app hm ⟨Zw.cb_hold h9 (op_lss_t f1), es, trivial⟩)⟩
    have c1 := Zw.cb_hold (op := .lss) (c := 1) h9 (op_lss_f (by omega))
    have uf : ∀ b, intOpA .lss .i64 D F = some (.bool b) → SymHolds m (Zw.uf 1140 1139 b).op (Zw.uf 1140 1139 b).x (Zw.uf 1140 1139 b).y (Zw.uf 1140 1139 b).r := fun b h => hold_bool (.atom _ _ h10) (.atom _ _ h9) h
    by_cases f2 : D < F
    · exact ⟨43, by omega, Zw.ah_app hP (Zw.ah_app hm ⟨c1, uf true (op_lss_t f2), es, trivial⟩)⟩
    have c2 := uf false (op_lss_f (by omega))
    by_cases f3 : 10000 < D
    · exact ⟨44, by omega, Zw.ah_app hP (Zw.ah_app hm ⟨c1, c2, Zw.cb_hold h10 (op_gtr_t f3), es, trivial⟩)⟩
    have c3 := Zw.cb_hold (op := .gtr) (c := 10000) h10 (op_gtr_f (by omega))
    have K9 : m.at_ 1139 = some (.int .i64 ((F.toNat : Nat) : Int)) := by rw [show ((F.toNat : Nat) : Int) = F by omega]; exact h9
    have hg := Zw.gN_hold hG (by omega) (by omega) (by omega) (by omega) (K7 b1) (K8 (by omega)) K9 (K10 (by omega))
    have hX := hG 116 (.string (Zs.ba (Zw.x7 A.toNat C.toNat F.toNat D.toNat))) rfl
    by_cases q : Zw.x7 A.toNat C.toNat F.toNat D.toNat = l
    · exact ⟨46, by omega, Zw.ah_app hP (Zw.ah_app hm ⟨c1, c2, c3, Zw.cb_hold h9 (op_eql_f (by omega)), Zw.ah_app hg ⟨Zw.seq_hold hX h (Zs.eql_ok (by simp [q])), Zw.seq_hold h hX (Zs.eql_ok (by simp [q])), trivial⟩⟩)⟩
    · exact ⟨45, by omega, Zw.ah_app hP (Zw.ah_app hm ⟨c1, c2, c3, Zw.ah_app hg ⟨Zw.seq_hold hX h (Zs.eql_ok (by simp only [beq_eq_false_iff_ne]; exact q)), trivial⟩⟩)⟩
theorem Zw.segL {A G C : List Value} {n i : Nat} {v : Value} (hA : A.length = n) (h : G[i]? = some v) : (A ++ (G ++ C))[n + i]? = some v := by
  subst hA
  rw [List.getElem?_append_right (by omega), Nat.add_sub_cancel_left, List.getElem?_append_left (List.getElem?_eq_some_iff.1 h).1]; exact h
theorem Zw.n0 {W : World} {n0 n1 n2 n3 : Int} {s : ByteArray} (htab : Zw.Need W) : NdGood Tryz.prog Tryz.f5 8 Tryz.H0 W Zw.pS Zw.d0 [(.int .i64 n0), (.int .i64 n1), (.int .i64 n2), (.int .i64 n3), (.string s)] := by
  obtain ⟨sl, rfl⟩ : ∃ sl, s = Zs.ba sl := ⟨s.data.toList, rfl⟩
  obtain ⟨l, hl⟩ : ∃ l, l = sl.take (min sl.length 30) := ⟨_, rfl⟩
  have hl30 : l.length ≤ 30 := by rw [hl, List.length_take]; omega
  obtain ⟨ps, hps⟩ : ∃ ps, ps = Lib.splitB (Zs.ba [46]) 0 (Lib.countB (Zs.ba l) (Zs.ba [46])) (Zs.ba l) := ⟨_, rfl⟩
  have hsz : ∀ (i : Nat) (x : ByteArray), ps[i]? = some x → x.data.toList.length < 1000 := fun i x hx => by
    have h1 := Zw.piece_le (Zs.ba [46]) _ (Zs.ba l) x (by rw [← hps]; exact List.mem_of_getElem? hx)
    rw [Zs.ba_size] at h1
    have : x.size = x.data.toList.length := rfl
    omega
  have pick : ∀ i : Nat, ∃ a : List UInt8, a.length < 1000 ∧ (i < ps.length → ps[i]? = some (Zs.ba a)) := fun i => by
    by_cases h : i < ps.length
    · exact ⟨(ps[i]).data.toList, hsz i _ (List.getElem?_eq_getElem h), fun _ => List.getElem?_eq_getElem h⟩
    · exact ⟨[], by simp, fun k => absurd k h⟩
  obtain ⟨a0, l0, g0⟩ := pick 0
  obtain ⟨a1, l1, g1⟩ := pick 1
  obtain ⟨a2, l2, g2⟩ := pick 2
  obtain ⟨a3, l3, g3⟩ := pick (ps.length - 1)
  obtain ⟨A, eA⟩ : ∃ A, atoiV (a0.drop (min a0.length 1)) = A := ⟨_, rfl⟩
  obtain ⟨C, eC⟩ : ∃ A, atoiV a1 = A := ⟨_, rfl⟩
  obtain ⟨F, eF⟩ : ∃ A, atoiV a2 = A := ⟨_, rfl⟩
  obtain ⟨D, eD⟩ : ∃ A, atoiV a3 = A := ⟨_, rfl⟩
  obtain ⟨G1, hG1⟩ : ∃ G, G = Zw.vG n0.toNat n1.toNat n2.toNat n3.toNat := ⟨_, rfl⟩
  obtain ⟨G2, hG2⟩ : ∃ G, G = Zw.vG A.toNat C.toNat F.toNat D.toNat := ⟨_, rfl⟩
  have len1 : G1.length = 122 := by rw [hG1]; rfl
  have one : ∀ t r f u : Nat, (Zw.vG t r f u).all (·.oneCell') = true := fun _ _ _ _ => rfl
  obtain ⟨mid, hmid⟩ : ∃ mid : List Value, mid = [.string (Zs.ba a0), .string (Zs.ba a1), .string (Zs.ba a2), .string (Zs.ba a3), .int .i64 (a0.length : Int), .int .i64 ((min a0.length 1 : Nat) : Int), .string (Zs.ba (a0.drop (min a0.length 1))), .int .i64 A, .int .i64 C, .int .i64 F, .int .i64 D] := ⟨_, rfl⟩
  obtain ⟨pre, hpre⟩ : ∃ pre : List Value, pre = [.int .i64 n0, .int .i64 n1, .int .i64 n2, .int .i64 n3, .string (Zs.ba sl), .int .i64 (sl.length : Int), .int .i64 ((min sl.length 30 : Nat) : Int), .string (Zs.ba l)] := ⟨_, rfl⟩
  obtain ⟨vs, hvs⟩ : ∃ vs, vs = pre ++ (G1 ++ (mid ++ G2)) := ⟨_, rfl⟩
  have at_ : ∀ i v, vs[i]? = some v → (nodeMu 8 [] vs).at_ (1000 + i) = some v := by
    intro i v h
    show atomsOf vs (1000 + i) = _
    unfold atomsOf
    rw [if_pos (by omega), Nat.add_sub_cancel_left, h]
  have hp : ∀ i v, pre[i]? = some v → (nodeMu 8 [] vs).at_ (1000 + i) = some v := fun i v h => at_ i v (by
    rw [hvs, List.getElem?_append_left (List.getElem?_eq_some_iff.1 h).1]; exact h)
  have hg1 : ∀ i v, (Zw.vG n0.toNat n1.toNat n2.toNat n3.toNat)[i]? = some v → (nodeMu 8 [] vs).at_ (1008 + i) = some v := fun i v h => by
    have := at_ (8 + i) v (by rw [hvs]; exact Zw.segL (by rw [hpre]; rfl) (by rw [hG1]; exact h))
    rw [← Nat.add_assoc] at this; exact this
  have hmd : ∀ i v, mid[i]? = some v → (nodeMu 8 [] vs).at_ (1130 + i) = some v := fun i v h => by
    have := at_ (130 + i) v (by
      rw [hvs, ← List.append_assoc]
      exact Zw.segL (by rw [List.length_append, len1, hpre]; rfl) h)
    rw [← Nat.add_assoc] at this; exact this
  have hg2 : ∀ i v, (Zw.vG A.toNat C.toNat F.toNat D.toNat)[i]? = some v → (nodeMu 8 [] vs).at_ (1141 + i) = some v := fun i v h => by
    have := at_ (141 + i) v (by
      have e : vs = (pre ++ (G1 ++ mid)) ++ (G2 ++ []) := by rw [hvs]; simp only [List.append_assoc, List.append_nil]
      rw [e]
      exact Zw.segL (by rw [List.length_append, List.length_append, len1, hpre, hmid]; rfl) (by rw [hG2]; exact h))
    rw [← Nat.add_assoc] at this; exact this
  have b0 := hp 0 (.int .i64 n0) (by rw [hpre]; rfl)
  have b1 := hp 1 (.int .i64 n1) (by rw [hpre]; rfl)
  have b2 := hp 2 (.int .i64 n2) (by rw [hpre]; rfl)
  have b3 := hp 3 (.int .i64 n3) (by rw [hpre]; rfl)
  have b4 := hp 4 (.string (Zs.ba sl)) (by rw [hpre]; rfl)
  have b5 := hp 5 (.int .i64 (sl.length : Int)) (by rw [hpre]; rfl)
  have b6 := hp 6 (.int .i64 ((min sl.length 30 : Nat) : Int)) (by rw [hpre]; rfl)
  have b7 := hp 7 (.string (Zs.ba l)) (by rw [hpre]; rfl)
  obtain ⟨i, hi, hF⟩ := Zw.first_ hg1 b0 b1 b2 b3
  obtain ⟨j, hj, hS⟩ := Zw.second_ (A := A) (C := C) (F := F) (D := D) hl30 l0 l1 l2 l3 b7
    (fun h => by
      rw [← hps] at h ⊢
      refine ⟨g0 (by omega), g1 (by omega), ?_⟩
      have := g3 (by omega); rw [h] at this; exact this)
    (fun h => by
      rw [← hps] at h ⊢
      refine ⟨g0 (by omega), g1 (by omega), g2 (by omega), ?_⟩
      have := g3 (by omega); rw [h] at this; exact this)
    (hmd 0 _ (by rw [hmid]; rfl)) (hmd 1 _ (by rw [hmid]; rfl)) (hmd 2 _ (by rw [hmid]; rfl)) (hmd 3 _ (by rw [hmid]; rfl)) (hmd 4 _ (by rw [hmid]; rfl)) (hmd 5 _ (by rw [hmid]; rfl)) (hmd 6 _ (by rw [hmid]; rfl)) (hmd 7 _ (by rw [hmid]; rfl)) (hmd 8 _ (by rw [hmid]; rfl)) (hmd 9 _ (by rw [hmid]; rfl)) (hmd 10 _ (by rw [hmid]; rfl)) eA eC eF eD hg2
  have e30 : (if (30 : Int) < (sl.length : Int) then (30 : Int) else (sl.length : Int)) = ((min sl.length 30 : Nat) : Int) := by split <;> omega
  have hS0 : AllHold (nodeMu 8 [] vs) Zw.S0 := ⟨⟨_, .atom _ _ b4, by rw [Zs.ba_size]; exact .atom _ _ b5⟩, ⟨.i64, _, 30, .atom _ _ b5, .int _ _, by rw [e30]; exact .atom _ _ b6⟩, ⟨_, .i64, min sl.length 30, .atom _ _ b4, .atom _ _ b6, by rw [Zs.ba_size]; omega, by rw [Zw.take_of, ← hl]; exact .atom _ _ b7⟩, trivial⟩
  have hone : vs.all (·.oneCell') = true := by
    rw [hvs, List.all_append, List.all_append, List.all_append, hpre, hmid, hG1, hG2, one, one]; rfl
  have hsplit : vs = [.int .i64 n0, .int .i64 n1, .int .i64 n2, .int .i64 n3, .string (Zs.ba sl)] ++ vs.drop 5 := by rw [hvs, hpre]; rfl
  have hold : AllHold (nodeMu 8 [] vs) (Zw.T i j) := Zw.ah_app hS0 (Zw.ah_app hF hS)
  rw [hsplit] at hold hone
  exact Zw.fx htab (Zw.T i j) (vs.drop 5) [] (fun sy => Zw.kS Zw.mS sy) hold Zw.i0 rfl hone rowsHold_nil (Zw.rAll hi hj)
end Go.Proofs
