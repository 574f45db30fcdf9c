/- The law: names of any bytes, in any order, some of them twice; hence from its start, for every input. No conditions. -/
import Derived.Test.YtfahjdpepgedpaaGreatDoorVSeatKeepFlightR1
import Derived.Test.YtfahjdpepgedpaaGreatDoorVSeatKeepFlightR2
set_option linter.all false
namespace Go.Proofs
open Go Go.Vsx Go.RowKit
set_option maxRecDepth 1000000
set_option maxHeartbeats 4000000
set_option linter.unusedVariables false
/-! strings of digits -/
def Zs.padL : Nat → Nat → List UInt8
  | 0, _ => []
  | k + 1, n => Zs.padL k (n / 10) ++ [UInt8.ofNat (48 + n % 10)]
theorem Zs.padL_len : ∀ k n, (Zs.padL k n).length = k
  | 0, _ => rfl
  | k + 1, n => by rw [Zs.padL, List.length_append, Zs.padL_len k]; rfl
theorem Zs.padL_zero : ∀ k, Zs.padL k 0 = Lib.repeatL [48] k
  | 0 => rfl
  | k + 1 => by
    rw [Zs.padL, Zs.padL_zero k]
    have : ∀ k, Lib.repeatL [(48 : UInt8)] k ++ [48] = 48 :: Lib.repeatL [48] k := by
      intro k
      induction k with
      | zero => rfl
      | succ k ih => simp only [Lib.repeatL, List.cons_append, List.nil_append, ih]
    exact this k
theorem Zs.rep_len (k : Nat) : (Lib.repeatL [(48 : UInt8)] k).length = k := by rw [Lib.repeatL_length]; simp
theorem Zs.pad_dec : ∀ k n, 1 ≤ k → n < 10 ^ k → 1 ≤ (Lib.decDigits n).length ∧ (Lib.decDigits n).length ≤ k ∧ Lib.repeatL [48] (k - (Lib.decDigits n).length) ++ Lib.decDigits n = Zs.padL k n
  | 0, _, h, _ => by omega
  | k + 1, n, _, h => by
    by_cases hn : n < 10
    · have e : Lib.decDigits n = [UInt8.ofNat (48 + n)] := by rw [Lib.decDigits, dif_pos hn]
      rw [e]
      refine ⟨by simp, by simp, ?_⟩
      rw [Zs.padL, show n / 10 = 0 by omega, show n % 10 = n by omega, Zs.padL_zero]
      rfl
    · have e : Lib.decDigits n = Lib.decDigits (n / 10) ++ [UInt8.ofNat (48 + n % 10)] := by rw [Lib.decDigits, dif_neg hn]
      have hk : 1 ≤ k := by
        cases k with
        | zero => simp at h; omega
        | succ k => omega
      obtain ⟨h1, h2, h3⟩ := Zs.pad_dec k (n / 10) hk (by rw [Nat.pow_succ] at h; omega)
      rw [e]
      simp only [List.length_append, List.length_cons, List.length_nil]
      refine ⟨by omega, by omega, ?_⟩
      rw [show k + 1 - ((Lib.decDigits (n / 10)).length + (0 + 1)) = k - (Lib.decDigits (n / 10)).length by omega, ← List.append_assoc, h3, Zs.padL]
theorem Zs.itoa_nat (n : Nat) : Lib.itoa (n : Int) = Lib.decDigits n := by
  unfold Lib.itoa
  rw [if_neg (by omega), Int.toNat_natCast]
theorem Zs.bl_pre : ∀ (p x y : List UInt8), Op.bytesLess (p ++ x) (p ++ y) = Op.bytesLess x y
  | [], _, _ => rfl
  | a :: p, x, y => by
    simp only [List.cons_append, Op.bytesLess, Zs.bl_pre p x y]
    simp
theorem Zs.bl_lt : ∀ {x y : List UInt8} (r r' : List UInt8), x.length = y.length → Op.bytesLess x y = true → Op.bytesLess (x ++ r) (y ++ r') = true
  | [], [], _, _, _, h => by simp [Op.bytesLess] at h
  | [], _ :: _, _, _, h, _ => by simp at h
  | _ :: _, [], _, _, h, _ => by simp at h
  | a :: x, b :: y, r, r', h, k => by
    simp only [List.cons_append, Op.bytesLess, Bool.or_eq_true, Bool.and_eq_true] at k ⊢
    rcases k with k | ⟨k1, k2⟩
    · exact .inl k
    · exact .inr ⟨k1, Zs.bl_lt r r' (by simpa using h) k2⟩
theorem Zs.bl_self : ∀ x : List UInt8, Op.bytesLess x x = false
  | [] => rfl
  | a :: x => by simp [Op.bytesLess, Zs.bl_self x]
theorem Zs.bl_asym : ∀ {x y : List UInt8}, Op.bytesLess x y = true → Op.bytesLess y x = false
  | [], [], h => by simp [Op.bytesLess] at h
  | [], _ :: _, _ => by simp [Op.bytesLess]
  | _ :: _, [], h => by simp [Op.bytesLess] at h
  | a :: x, b :: y, h => by
    simp only [Op.bytesLess, Bool.or_eq_true, Bool.and_eq_true, decide_eq_true_eq, beq_iff_eq] at h
    simp only [Op.bytesLess, Bool.or_eq_false_iff, Bool.and_eq_false_iff, decide_eq_false_iff_not]
    rcases h with h | ⟨rfl, h⟩
    · refine ⟨fun k => ?_, .inl ?_⟩
      · exact absurd (UInt8.lt_trans h k) (UInt8.lt_irrefl _)
      · simp only [beq_eq_false_iff_ne]; rintro rfl; exact UInt8.lt_irrefl _ h
    · exact ⟨UInt8.lt_irrefl _, .inr (Zs.bl_asym h)⟩
theorem Zs.dig_lt {a b : Nat} (ha : a < 10) (hb : b < 10) : (UInt8.ofNat (48 + a) < UInt8.ofNat (48 + b)) ↔ a < b := by
  rw [UInt8.lt_iff_toNat_lt, UInt8.toNat_ofNat', UInt8.toNat_ofNat']; omega
theorem Zs.bl_pad : ∀ k {u v : Nat}, u < v → v < 10 ^ k → Op.bytesLess (Zs.padL k u) (Zs.padL k v) = true
  | 0, u, v, h, k => by simp at k; omega
  | k + 1, u, v, h, hv => by
    simp only [Zs.padL]
    rw [Nat.pow_succ] at hv
    by_cases e : u / 10 = v / 10
    · rw [e, Zs.bl_pre]
      have : UInt8.ofNat (48 + u % 10) < UInt8.ofNat (48 + v % 10) := (Zs.dig_lt (by omega) (by omega)).2 (by omega)
      show (decide _ || _) = true
      rw [decide_eq_true this]; rfl
    · exact Zs.bl_lt _ _ (by rw [Zs.padL_len, Zs.padL_len]) (Zs.bl_pad k (by omega) (by omega))
theorem Zs.pad_inj {k u v : Nat} (hu : u < 10 ^ k) (hv : v < 10 ^ k) (h : Zs.padL k u = Zs.padL k v) : u = v := by
  rcases Nat.lt_trichotomy u v with q | q | q
  · have := Zs.bl_pad k q hv; rw [h, Zs.bl_self] at this; cases this
  · exact q
  · have := Zs.bl_pad k q hu; rw [h, Zs.bl_self] at this; cases this
def Zs.ba (l : List UInt8) : ByteArray := ⟨l.toArray⟩
theorem Zs.ba_toList (l : List UInt8) : (Zs.ba l).toList = l := by unfold Zs.ba; rw [ByteArray.toList_mk]
theorem Zs.ba_app (a b : List UInt8) : Zs.ba a ++ Zs.ba b = Zs.ba (a ++ b) := by
  apply ByteArray.ext
  simp [Zs.ba]
theorem Zs.ba_size (l : List UInt8) : (Zs.ba l).size = l.length := List.size_toArray
theorem Zs.add_ok {a b c : List UInt8} (h : a ++ b = c) (hl : c.length < 1000) : strOpA .add (Zs.ba a) (Zs.ba b) = some (.string (Zs.ba c)) := by
  have h2 := congrArg List.length h
  rw [List.length_append] at h2
  simp only [strOpA]
  rw [if_pos (by rw [Zs.ba_size, Zs.ba_size]; omega), Zs.ba_app, h]
theorem Zs.lss_ok {a b : List UInt8} {q : Bool} (h : Op.bytesLess a b = q) : strOpA .lss (Zs.ba a) (Zs.ba b) = some (.bool q) := by
  simp only [strOpA, Zs.ba_toList, h]
theorem Zs.eql_ok {a b : List UInt8} {q : Bool} (h : (a == b) = q) : strOpA .eql (Zs.ba a) (Zs.ba b) = some (.bool q) := by
  simp only [strOpA, Zs.ba_toList, h]
theorem Zs.neq_ok {a b : List UInt8} {q : Bool} (h : (!(a == b)) = q) : strOpA .neq (Zs.ba a) (Zs.ba b) = some (.bool q) := by
  simp only [strOpA, Zs.ba_toList, h]

/-! the order of strings -/
theorem Zc.self : ∀ a : List UInt8, Lib.compareBytes a a = 0
  | [] => rfl
  | x :: a => by
    simp only [Lib.compareBytes]
    rw [if_neg (UInt8.lt_irrefl x), if_neg (UInt8.lt_irrefl x)]
    exact Zc.self a
theorem Zc.cases : ∀ a b : List UInt8, (Lib.compareBytes a b = -1 ∧ Lib.compareBytes b a = 1) ∨ a = b ∨ (Lib.compareBytes a b = 1 ∧ Lib.compareBytes b a = -1)
  | [], [] => .inr (.inl rfl)
  | [], y :: b => .inl ⟨rfl, rfl⟩
  | x :: a, [] => .inr (.inr ⟨rfl, rfl⟩)
  | x :: a, y :: b => by
    simp only [Lib.compareBytes]
    by_cases h1 : x < y
    · have h2 : ¬ y < x := fun h => UInt8.lt_asymm h1 h
      rw [if_pos h1, if_neg h2, if_pos h1]
      exact .inl ⟨rfl, rfl⟩
    · rw [if_neg h1]
      by_cases h2 : y < x
      · rw [if_pos h2, if_pos h2]
        exact .inr (.inr ⟨rfl, rfl⟩)
      · rw [if_neg h2, if_neg h2, if_neg h1]
        have hxy : x = y := UInt8.le_antisymm (UInt8.not_lt.1 h2) (UInt8.not_lt.1 h1)
        subst hxy
        rcases Zc.cases a b with h | h | h
        · exact .inl h
        · exact .inr (.inl (by rw [h]))
        · exact .inr (.inr h)
theorem Zc.flip {a b : List UInt8} (h : Lib.compareBytes a b = -1) : Lib.compareBytes b a = 1 := by
  rcases Zc.cases a b with ⟨_, k⟩ | k | ⟨k, _⟩
  · exact k
  · subst k; rw [Zc.self] at h; exact absurd h (by decide)
  · rw [h] at k; exact absurd k (by decide)
theorem Zc.ne {a b : List UInt8} (h : Lib.compareBytes a b = -1) : a ≠ b := fun e => by
  subst e; rw [Zc.self] at h; exact absurd h (by decide)
theorem Zc.trans : ∀ {a b c : List UInt8}, Lib.compareBytes a b = -1 → Lib.compareBytes b c = -1 → Lib.compareBytes a c = -1
  | [], [], _, h, _ => by cases h
  | [], y :: b, [], _, h => by simp [Lib.compareBytes] at h
  | [], y :: b, z :: c, _, _ => rfl
  | x :: a, [], _, h, _ => by simp [Lib.compareBytes] at h
  | x :: a, y :: b, [], _, h => by simp [Lib.compareBytes] at h
  | x :: a, y :: b, z :: c, h, k => by
    simp only [Lib.compareBytes] at h k ⊢
    by_cases h1 : x < y
    · by_cases k1 : y < z
      · rw [if_pos (UInt8.lt_trans h1 k1)]
      · rw [if_neg k1] at k
        by_cases k2 : z < y
        · rw [if_pos k2] at k; exact absurd k (by decide)
        · have : y = z := UInt8.le_antisymm (UInt8.not_lt.1 k2) (UInt8.not_lt.1 k1)
          subst this
          rw [if_pos h1]
    · rw [if_neg h1] at h
      by_cases h2 : y < x
      · rw [if_pos h2] at h; exact absurd h (by decide)
      · rw [if_neg h2] at h
        have hxy : x = y := UInt8.le_antisymm (UInt8.not_lt.1 h2) (UInt8.not_lt.1 h1)
        subst hxy
        by_cases k1 : x < z
        · rw [if_pos k1]
        · rw [if_neg k1] at k ⊢
          by_cases k2 : z < x
          · rw [if_pos k2] at k; exact absurd k (by decide)
          · rw [if_neg k2] at k ⊢
            exact Zc.trans h k

/-! tables -/
theorem Zw.ah_app {m : Mu} : ∀ {a b : List SE}, AllHold m a → AllHold m b → AllHold m (a ++ b)
  | [], _, _, h => h
  | _ :: _, _, h1, h2 => ⟨h1.1, Zw.ah_app h1.2 h2⟩
theorem Zw.ah_cat {m : Mu} {f : Nat → List SE} : ∀ n, (∀ i, i < n → AllHold m (f i)) → AllHold m (Zw.cat f n)
  | 0, _ => trivial
  | n + 1, h => Zw.ah_app (Zw.ah_cat n fun i hi => h i (by omega)) (h n (by omega))
theorem Zw.ev_app {m : Mu} {vb : List Value} : ∀ {a va b : List Value}, evL m a = some va → evL m b = some vb → evL m (a ++ b) = some (va ++ vb)
  | [], va, b, h1, h2 => by cases h1; exact h2
  | u :: a, va, b, h1, h2 => by
    simp only [evL] at h1
    cases hu : evM m u with
    | none => rw [hu] at h1; cases h1
    | some x =>
      rw [hu] at h1
      cases hr : evL m a with
      | none => rw [hr] at h1; cases h1
      | some r =>
        rw [hr] at h1; cases h1
        show evL m (u :: (a ++ b)) = _
        simp only [evL, hu, Zw.ev_app hr h2]
        rfl
theorem Zw.at_ {ng : Nat} {rows : List Pl} {vals : List Value} {v k : Nat} (h : v = 1000 + k) : (nodeMu ng rows vals).at_ v = vals[k]? := by
  subst h
  show atomsOf vals (1000 + k) = _
  unfold atomsOf
  rw [if_pos (by omega)]
  congr 1; omega
theorem Zw.atX {ng : Nat} {rows : List Pl} {vals ex : List Value} {v t : Nat} (h : v = 1000 + vals.length + t) : (nodeMu ng rows (vals ++ ex)).at_ v = ex[t]? := by
  rw [Zw.at_ (k := vals.length + t) (by omega), List.getElem?_append_right (by omega)]
  congr 1; omega
theorem Zw.atC {ng : Nat} {rows : List Pl} {p w ex : List Value} {v i : Nat} (hv : v = 1000 + p.length + i) (hi : i < w.length) : (nodeMu ng rows ((p ++ w) ++ ex)).at_ v = w[i]? := by
  rw [Zw.at_ (k := p.length + i) (by omega), List.getElem?_append_left (by simp only [List.length_append]; omega), List.getElem?_append_right (by omega)]
  congr 1; omega
theorem Zw.hC {m : Mu} {op : BinOp} {x : Nat} {c v : Int} {b : Bool} (h : m.at_ x = some (.int .i64 v)) (o : intOpA op .i64 v c = some (.bool b)) : SymHolds m (.bin op) (ch x) (.int .i64 c) (.bool b) := hold_bool (.atom _ _ h) (.int _ _) o
theorem Zw.hCC {m : Mu} {op : BinOp} {x y : Nat} {v w : Int} {b : Bool} (h : m.at_ x = some (.int .i64 v)) (h' : m.at_ y = some (.int .i64 w)) (o : intOpA op .i64 v w = some (.bool b)) : SymHolds m (.bin op) (ch x) (ch y) (.bool b) := hold_bool (.atom _ _ h) (.atom _ _ h') o
theorem Zw.neq_t {s t : ByteArray} (h : s.data.toList ≠ t.data.toList) : strOpA .neq s t = some (.bool true) := by
  simp only [strOpA, ByteArray.toList_eq]
  rw [beq_eq_false_iff_ne.2 h]; rfl
theorem Zw.eql_b {s t : ByteArray} {b : Bool} (h : (s.data.toList == t.data.toList) = b) : strOpA .eql s t = some (.bool b) := by
  simp only [strOpA, ByteArray.toList_eq]
  rw [h]

/-! the number of a name that begins with an 'x' is nought -/
theorem Zw.num0 {W : World} (htab : Zw.Need W) {l : List UInt8} (hl : l.length < 1048576) : Calls Tryz.prog 43 #[.string ⟨(120 :: l).toArray⟩] W fun e W' => e = .returned (.int .i64 0) ∧ RowKit.Below W.heap.size W W' := by
  generalize hs : (⟨(120 :: l).toArray⟩ : ByteArray) = s
  have hd : s.data.toList = 120 :: l := by rw [← hs]
  have hsz : s.size = l.length + 1 := by rw [← hs]; rfl
  have go : ∀ (k : Nat) (ex : List Value), ex.all (·.oneCell') = true → AllHold (nodeMu 8 [] (.string s :: ex)) (Zw.nT k) → Zw.fN k = true → Calls Tryz.prog 43 #[.string s] W fun e W' => e = .returned (.int .i64 0) ∧ RowKit.Below W.heap.size W W' := fun k ex ho hold hr =>
    callsI (E := Tryz.Es Zw.nS (syOf (Zw.nT k))) (vals := .string s :: ex) (args := [ch 1000]) W (by omega) (Zw.rightN _ _ W htab (symOk_of rfl hold)) hr htab.globs (by rw [List.all_cons, ho]; rfl) (VL.cons (.atom _ _ rfl) VL.nil)
  generalize hv : s.extract 1 s.size = v
  have hvs : v.size < 1048576 := by rw [← hv, ByteArray.size_extract]; omega
  have base : ∀ (ex : List Value) (q : Bool), SymHolds (nodeMu 8 [] (.string s :: .int .i64 (s.size : Int) :: .string v :: .int .i64 (atoiV v.data.toList) :: ex)) .aerr (ch 1002) (.int .i64 0) (.bool q) → AllHold (nodeMu 8 [] (.string s :: .int .i64 (s.size : Int) :: .string v :: .int .i64 (atoiV v.data.toList) :: ex)) (Zw.nB q) := fun ex q hq =>
    ⟨⟨s, .atom _ _ rfl, .atom _ _ rfl⟩, Zw.hC (v := (s.size : Int)) rfl (op_lss_f (by omega)), ⟨s, .i64, 1, .atom _ _ rfl, .int _ _, by omega, by rw [hv]; exact .atom _ _ rfl⟩, ⟨v, .atom _ _ rfl, hvs, .atom _ _ rfl⟩, hq, trivial⟩
  cases hz : Lib.atoiAll v.data.toList with
  | «syntax» => exact go 0 _ rfl (base [] true ⟨v, .atom _ _ rfl, by rw [hz]; exact .bool _⟩) Zw.rN0
  | range => exact go 0 _ rfl (base [] true ⟨v, .atom _ _ rfl, by rw [hz]; exact .bool _⟩) Zw.rN0
  | ok z =>
    have hB := fun ex => base ex false ⟨v, .atom _ _ rfl, by rw [hz]; exact .bool _⟩
    have ha : atoiV v.data.toList = z := by unfold atoiV; rw [hz]
    rw [ha] at hB
    by_cases c1 : z < 1
    · exact go 1 _ rfl (Zw.ah_app (hB []) ⟨Zw.hC (v := z) rfl (op_lss_t c1), trivial⟩) Zw.rN1
    by_cases c2 : 99999 < z
    · exact go 2 _ rfl (Zw.ah_app (hB []) ⟨Zw.hC (v := z) rfl (op_lss_f (by omega)), Zw.hC (v := z) rfl (op_gtr_t c2), ⟨⟨#[]⟩, s, _, .str _, .atom _ _ rfl, Zw.neq_t (by rw [hd]; simp), .bool _⟩, trivial⟩) Zw.rN2
    obtain ⟨n, rfl⟩ : ∃ n : Nat, z = (n : Int) := ⟨z.toNat, by omega⟩
    obtain ⟨d1, d2, _⟩ := Zs.pad_dec 5 n (by omega) (by omega)
    have hi := Zs.itoa_nat n
    generalize hdd : Lib.decDigits n = ds at d1 d2 hi
    obtain ⟨k, hk⟩ : ∃ k, ds.length = k + 1 := ⟨ds.length - 1, by omega⟩
    have hold : AllHold (nodeMu 8 [] (.string s :: .int .i64 (s.size : Int) :: .string v :: .int .i64 (n : Int) :: [.string ⟨ds.toArray⟩, .string (⟨(99 :: List.replicate (5 - (k + 1)) 48).toArray⟩ ++ ⟨ds.toArray⟩)])) (Zw.nT (k + 3)) := by
      refine Zw.ah_app (hB _) ⟨Zw.hC (v := (n : Int)) rfl (op_lss_f (by omega)), Zw.hC (v := (n : Int)) rfl (op_gtr_f (by omega)), ⟨n, .atom _ _ rfl, by omega, by omega, by rw [hi]; exact .atom _ _ rfl⟩, ⟨⟨ds.toArray⟩, .atom _ _ rfl, ?_⟩, ⟨_, ⟨ds.toArray⟩, _, .str _, .atom _ _ rfl, ?_, .atom _ _ rfl⟩, ⟨_, s, _, .atom _ _ rfl, .atom _ _ rfl, Zw.neq_t ?_, .bool _⟩, trivial⟩
      · have : (((⟨ds.toArray⟩ : ByteArray).size : Nat) : Int) = Int.ofNat (k + 1) := by
          show ((ds.toArray.size : Nat) : Int) = Int.ofNat (k + 1)
          rw [List.size_toArray, hk]; rfl
        rw [this]; exact .int _ _
      · simp only [strOpA]
        rw [if_pos]
        show (99 :: List.replicate (5 - (k + 1)) 48).toArray.size + ds.toArray.size < 2 ^ 62
        rw [List.size_toArray, List.size_toArray, List.length_cons, List.length_replicate, hk]
        have : (7 : Nat) < 2 ^ 62 := by decide
        omega
      · rw [hd, ByteArray.data_append, Array.toList_append]
        simp
    have h5 : k = 0 ∨ k = 1 ∨ k = 2 ∨ k = 3 ∨ k = 4 := by omega
    refine go (k + 3) _ rfl hold ?_
    rcases h5 with rfl | rfl | rfl | rfl | rfl
    · exact Zw.rN3
    · exact Zw.rN4
    · exact Zw.rN5
    · exact Zw.rN6
    · exact Zw.rN7
theorem Zw.rightS (sy : PT (List SE)) (mu : Mu) (W : World) (htab : Zw.Need W) (hy : SymOk (Tryz.Es Zw.mS sy) mu) : Right Tryz.prog (Tryz.Es Zw.mS sy) (lawG 8 Tryz.H0 W mu) := by
  refine right_of Tryz.nglob (by kernel_rfl) Tryz.extOk Tryz.chk (prim_of rfl fun x hx => ?_) hy
  rcases List.mem_append.1 hx with h | h
  · rcases List.mem_append.1 h with h | h
    · exact (Tryz.mOk3 x h).law
    · simp only [Zw.sL, List.mem_cons, List.mem_nil_iff, or_false] at h
      rcases h with rfl | rfl
      · exact frontX_fits ⟨Tryz.f43, Tryz.func43, by kernel_rfl, by kernel_rfl⟩ hy fun w l hb hl => Zw.num0 (htab.on hb) hl
      · exact Zw.sorted1 sy _ hy
  · exact Tryz.primsOk x h
theorem Zw.nx {W : World} (htab : Zw.Need W) {pt pt' : Pt} {d d' : Nd} {vals : List Value} {roc : List (List Value)} {j hk : Nat} {rl : List (Nat × Nat)} {A : List Value} {vals' : List Value} (t : List SE) (ex : List Value) (rows : List Pl)
    (hok : ∀ sy, okPt (Tryz.Es Zw.mS sy) 8 pt = true) (hold : AllHold (nodeMu 8 rows (vals ++ ex)) t)
    (hid : d.sub 8 roc (idl 8 d.objs) (idA hk) (d.st 8 []) = true) (hrow : RowsHold W (nodeMu 8 rows (vals ++ ex)) rows roc)
    (hrun : leafNext (fK (Tryz.Es Zw.mS (syOf t)) 100000 100000 pt (d.st 8 roc) j) 8 d' rl A = some pt')
    (h : NdGood Tryz.prog Tryz.f3 8 Tryz.H0 W pt' d' vals') (hlen : hk = vals.length) (hone : (vals ++ ex).all (·.oneCell') = true) (hA : evL (nodeMu 8 rows (vals ++ ex)) A = some vals') (hone' : vals'.all (·.oneCell') = true) : NdGood Tryz.prog Tryz.f3 8 Tryz.H0 W pt d vals :=
  NdGood.next (E := Tryz.Es Zw.mS (syOf t)) (extras := ex) (rows := rows) (vals' := vals') (by omega) (Zw.rightS (syOf t) _ W htab (symOk_of rfl hold)) (hok _) hid hlen hone hrow hrun hA hone' h
theorem Zw.fx {W : World} (htab : Zw.Need W) {pt : Pt} {d : Nd} {vals : List Value} {roc : List (List Value)} {j hk : Nat} (t : List SE) (ex : List Value) (rows : List Pl)
    (hok : ∀ sy, okPt (Tryz.Es Zw.mS sy) 8 pt = true) (hold : AllHold (nodeMu 8 rows (vals ++ ex)) t)
    (hid : d.sub 8 roc (idl 8 d.objs) (idA hk) (d.st 8 []) = true) (hlen : hk = vals.length) (hone : (vals ++ ex).all (·.oneCell') = true) (hrow : RowsHold W (nodeMu 8 rows (vals ++ ex)) rows roc)
    (hrun : leafFin (Tryz.Es Zw.mS (syOf t)) Tryz.f3 (fK (Tryz.Es Zw.mS (syOf t)) 100000 100000 pt (d.st 8 roc) j) = true) : NdGood Tryz.prog Tryz.f3 8 Tryz.H0 W pt d vals :=
  NdGood.fin (E := Tryz.Es Zw.mS (syOf t)) (extras := ex) (rows := rows) (by omega) (Zw.rightS (syOf t) _ W htab (symOk_of rfl hold)) (hok _) hid hlen hone hrow hrun
theorem Zw.qI {n p : Nat} (hn : n < 8) (hp : p < n) : Zw.LI n p = some Zw.p0 := by
  rcases (show n = 1 ∨ n = 2 ∨ n = 3 ∨ n = 4 ∨ n = 5 ∨ n = 6 ∨ n = 7 by omega) with rfl | rfl | rfl | rfl | rfl | rfl | rfl
  ·
    exact Zw.rep_ Zw.rI1 p hp
  ·
    exact Zw.rep_ Zw.rI2 p hp
  ·
    exact Zw.rep_ Zw.rI3 p hp
  ·
    exact Zw.rep_ Zw.rI4 p hp
  ·
    exact Zw.rep_ Zw.rI5 p hp
  ·
    exact Zw.rep_ Zw.rI6 p hp
  ·
    exact Zw.rep_ Zw.rI7 p hp
theorem Zw.qP {n q : Nat} (hn : n < 8) (hq : q < n + 1) : Zw.LP n q = some Zw.p0 := by
  rcases (show n = 0 ∨ n = 1 ∨ n = 2 ∨ n = 3 ∨ n = 4 ∨ n = 5 ∨ n = 6 ∨ n = 7 by omega) with rfl | rfl | rfl | rfl | rfl | rfl | rfl | rfl
  ·
    exact Zw.rep_ Zw.rP0 q hq
  ·
    exact Zw.rep_ Zw.rP1 q hq
  ·
    exact Zw.rep_ Zw.rP2 q hq
  ·
    exact Zw.rep_ Zw.rP3 q hq
  ·
    exact Zw.rep_ Zw.rP4 q hq
  ·
    exact Zw.rep_ Zw.rP5 q hq
  ·
    exact Zw.rep_ Zw.rP6 q hq
  ·
    exact Zw.rep_ Zw.rP7 q hq
theorem Zw.qE0 {e : Nat} (he : e < 2) : Zw.fE 0 e 0 0 = true := by
  rcases (show e = 0 ∨ e = 1 by omega) with rfl | rfl
  ·
    exact Zw.rep_ Zw.rE0_0_0 0 (by omega)
  ·
    exact Zw.rep_ Zw.rE0_1_0 0 (by omega)
theorem Zw.qE {n e j r : Nat} (hn : 1 ≤ n ∧ n ≤ 8) (he : e < 2) (hj : j < n) (hr : r < n) : Zw.fE n e j r = true := by
  rcases (show n = 1 ∨ n = 2 ∨ n = 3 ∨ n = 4 ∨ n = 5 ∨ n = 6 ∨ n = 7 ∨ n = 8 by omega) with rfl | rfl | rfl | rfl | rfl | rfl | rfl | rfl
  ·
    rcases (show e = 0 ∨ e = 1 by omega) with rfl | rfl
    ·
      obtain rfl : j = 0 := by omega
      exact Zw.rep_ Zw.rE1_0_0 r hr
    ·
      obtain rfl : j = 0 := by omega
      exact Zw.rep_ Zw.rE1_1_0 r hr
  ·
    rcases (show e = 0 ∨ e = 1 by omega) with rfl | rfl
    ·
      rcases (show j = 0 ∨ j = 1 by omega) with rfl | rfl
      ·
        exact Zw.rep_ Zw.rE2_0_0 r hr
      ·
        exact Zw.rep_ Zw.rE2_0_1 r hr
    ·
      rcases (show j = 0 ∨ j = 1 by omega) with rfl | rfl
      ·
        exact Zw.rep_ Zw.rE2_1_0 r hr
      ·
        exact Zw.rep_ Zw.rE2_1_1 r hr
  ·
    rcases (show e = 0 ∨ e = 1 by omega) with rfl | rfl
    ·
      rcases (show j = 0 ∨ j = 1 ∨ j = 2 by omega) with rfl | rfl | rfl
      ·
        exact Zw.rep_ Zw.rE3_0_0 r hr
      ·
        exact Zw.rep_ Zw.rE3_0_1 r hr
      ·
        exact Zw.rep_ Zw.rE3_0_2 r hr
    ·
      rcases (show j = 0 ∨ j = 1 ∨ j = 2 by omega) with rfl | rfl | rfl
      ·
        exact Zw.rep_ Zw.rE3_1_0 r hr
      ·
        exact Zw.rep_ Zw.rE3_1_1 r hr
      ·
        exact Zw.rep_ Zw.rE3_1_2 r hr
  ·
    rcases (show e = 0 ∨ e = 1 by omega) with rfl | rfl
    ·
      rcases (show j = 0 ∨ j = 1 ∨ j = 2 ∨ j = 3 by omega) with rfl | rfl | rfl | rfl
      ·
        exact Zw.rep_ Zw.rE4_0_0 r hr
      ·
        exact Zw.rep_ Zw.rE4_0_1 r hr
      ·
        exact Zw.rep_ Zw.rE4_0_2 r hr
      ·
        exact Zw.rep_ Zw.rE4_0_3 r hr
    ·
      rcases (show j = 0 ∨ j = 1 ∨ j = 2 ∨ j = 3 by omega) with rfl | rfl | rfl | rfl
      ·
        exact Zw.rep_ Zw.rE4_1_0 r hr
      ·
        exact Zw.rep_ Zw.rE4_1_1 r hr
      ·
        exact Zw.rep_ Zw.rE4_1_2 r hr
      ·
        exact Zw.rep_ Zw.rE4_1_3 r hr
  ·
    rcases (show e = 0 ∨ e = 1 by omega) with rfl | rfl
    ·
      rcases (show j = 0 ∨ j = 1 ∨ j = 2 ∨ j = 3 ∨ j = 4 by omega) with rfl | rfl | rfl | rfl | rfl
      ·
        exact Zw.rep_ Zw.rE5_0_0 r hr
      ·
        exact Zw.rep_ Zw.rE5_0_1 r hr
      ·
        exact Zw.rep_ Zw.rE5_0_2 r hr
      ·
        exact Zw.rep_ Zw.rE5_0_3 r hr
      ·
        exact Zw.rep_ Zw.rE5_0_4 r hr
    ·
      rcases (show j = 0 ∨ j = 1 ∨ j = 2 ∨ j = 3 ∨ j = 4 by omega) with rfl | rfl | rfl | rfl | rfl
      ·
        exact Zw.rep_ Zw.rE5_1_0 r hr
      ·
        exact Zw.rep_ Zw.rE5_1_1 r hr
      ·
        exact Zw.rep_ Zw.rE5_1_2 r hr
      ·
        exact Zw.rep_ Zw.rE5_1_3 r hr
      ·
        exact Zw.rep_ Zw.rE5_1_4 r hr
  ·
    rcases (show e = 0 ∨ e = 1 by omega) with rfl | rfl
    ·
      rcases (show j = 0 ∨ j = 1 ∨ j = 2 ∨ j = 3 ∨ j = 4 ∨ j = 5 by omega) with rfl | rfl | rfl | rfl | rfl | rfl
      ·
        exact Zw.rep_ Zw.rE6_0_0 r hr
      ·
        exact Zw.rep_ Zw.rE6_0_1 r hr
      ·
        exact Zw.rep_ Zw.rE6_0_2 r hr
      ·
        exact Zw.rep_ Zw.rE6_0_3 r hr
      ·
        exact Zw.rep_ Zw.rE6_0_4 r hr
      ·
        exact Zw.rep_ Zw.rE6_0_5 r hr
    ·
      rcases (show j = 0 ∨ j = 1 ∨ j = 2 ∨ j = 3 ∨ j = 4 ∨ j = 5 by omega) with rfl | rfl | rfl | rfl | rfl | rfl
      ·
        exact Zw.rep_ Zw.rE6_1_0 r hr
      ·
        exact Zw.rep_ Zw.rE6_1_1 r hr
      ·
        exact Zw.rep_ Zw.rE6_1_2 r hr
      ·
        exact Zw.rep_ Zw.rE6_1_3 r hr
      ·
        exact Zw.rep_ Zw.rE6_1_4 r hr
      ·
        exact Zw.rep_ Zw.rE6_1_5 r hr
  ·
    rcases (show e = 0 ∨ e = 1 by omega) with rfl | rfl
    ·
      rcases (show j = 0 ∨ j = 1 ∨ j = 2 ∨ j = 3 ∨ j = 4 ∨ j = 5 ∨ j = 6 by omega) with rfl | rfl | rfl | rfl | rfl | rfl | rfl
      ·
        exact Zw.rep_ Zw.rE7_0_0 r hr
      ·
        exact Zw.rep_ Zw.rE7_0_1 r hr
      ·
        exact Zw.rep_ Zw.rE7_0_2 r hr
      ·
        exact Zw.rep_ Zw.rE7_0_3 r hr
      ·
        exact Zw.rep_ Zw.rE7_0_4 r hr
      ·
        exact Zw.rep_ Zw.rE7_0_5 r hr
      ·
        exact Zw.rep_ Zw.rE7_0_6 r hr
    ·
      rcases (show j = 0 ∨ j = 1 ∨ j = 2 ∨ j = 3 ∨ j = 4 ∨ j = 5 ∨ j = 6 by omega) with rfl | rfl | rfl | rfl | rfl | rfl | rfl
      ·
        exact Zw.rep_ Zw.rE7_1_0 r hr
      ·
        exact Zw.rep_ Zw.rE7_1_1 r hr
      ·
        exact Zw.rep_ Zw.rE7_1_2 r hr
      ·
        exact Zw.rep_ Zw.rE7_1_3 r hr
      ·
        exact Zw.rep_ Zw.rE7_1_4 r hr
      ·
        exact Zw.rep_ Zw.rE7_1_5 r hr
      ·
        exact Zw.rep_ Zw.rE7_1_6 r hr
  ·
    rcases (show e = 0 ∨ e = 1 by omega) with rfl | rfl
    ·
      rcases (show j = 0 ∨ j = 1 ∨ j = 2 ∨ j = 3 ∨ j = 4 ∨ j = 5 ∨ j = 6 ∨ j = 7 by omega) with rfl | rfl | rfl | rfl | rfl | rfl | rfl | rfl
      ·
        exact Zw.rep_ Zw.rE8_0_0 r hr
      ·
        exact Zw.rep_ Zw.rE8_0_1 r hr
      ·
        exact Zw.rep_ Zw.rE8_0_2 r hr
      ·
        exact Zw.rep_ Zw.rE8_0_3 r hr
      ·
        exact Zw.rep_ Zw.rE8_0_4 r hr
      ·
        exact Zw.rep_ Zw.rE8_0_5 r hr
      ·
        exact Zw.rep_ Zw.rE8_0_6 r hr
      ·
        exact Zw.rep_ Zw.rE8_0_7 r hr
    ·
      rcases (show j = 0 ∨ j = 1 ∨ j = 2 ∨ j = 3 ∨ j = 4 ∨ j = 5 ∨ j = 6 ∨ j = 7 by omega) with rfl | rfl | rfl | rfl | rfl | rfl | rfl | rfl
      ·
        exact Zw.rep_ Zw.rE8_1_0 r hr
      ·
        exact Zw.rep_ Zw.rE8_1_1 r hr
      ·
        exact Zw.rep_ Zw.rE8_1_2 r hr
      ·
        exact Zw.rep_ Zw.rE8_1_3 r hr
      ·
        exact Zw.rep_ Zw.rE8_1_4 r hr
      ·
        exact Zw.rep_ Zw.rE8_1_5 r hr
      ·
        exact Zw.rep_ Zw.rE8_1_6 r hr
      ·
        exact Zw.rep_ Zw.rE8_1_7 r hr

/-! names -/
noncomputable def Zw.nm (l : List UInt8) : ByteArray := ⟨(120 :: l).toArray⟩
theorem Zw.nm_data (l : List UInt8) : (Zw.nm l).data.toList = 120 :: l := rfl
theorem Zw.nm_size (l : List UInt8) : (Zw.nm l).size = l.length + 1 := rfl
noncomputable def Zw.lt (a b : List UInt8) : Prop := Lib.compareBytes (120 :: a) (120 :: b) = -1
noncomputable def Zw.sv (S : Nat → List UInt8) : Nat → List Value
  | 0 => []
  | n + 1 => Zw.sv S n ++ [.string (Zw.nm (S n))]
theorem Zw.sv_len (S : Nat → List UInt8) : ∀ n, (Zw.sv S n).length = n
  | 0 => rfl
  | n + 1 => by
    show (Zw.sv S n ++ [Value.string (Zw.nm (S n))]).length = _
    rw [List.length_append, Zw.sv_len S n]; rfl
theorem Zw.sv_one (S : Nat → List UInt8) : ∀ n, (Zw.sv S n).all (·.oneCell') = true
  | 0 => rfl
  | n + 1 => by
    show (Zw.sv S n ++ [Value.string (Zw.nm (S n))]).all (·.oneCell') = true
    rw [List.all_append, Zw.sv_one S n]; rfl
theorem Zw.sv_get (S : Nat → List UInt8) : ∀ n j, j < n → (Zw.sv S n)[j]? = some (.string (Zw.nm (S j)))
  | 0, _, h => absurd h (Nat.not_lt_zero _)
  | n + 1, j, h => by
    have hl := Zw.sv_len S n
    show (Zw.sv S n ++ [Value.string (Zw.nm (S n))])[j]? = _
    rcases Nat.lt_or_ge j n with h1 | h1
    · rw [List.getElem?_append_left (by omega)]
      exact Zw.sv_get S n j h1
    · obtain rfl : j = n := by omega
      rw [List.getElem?_append_right (by omega), hl, show j - j = 0 by omega]
      rfl
theorem Zw.ev_pa {m : Mu} {f : Nat → Nat} {S : Nat → List UInt8} : ∀ n, (∀ j, j < n → m.at_ (f j) = some (.string (Zw.nm (S j)))) → evL m (Zw.pa f n) = some (Zw.sv S n)
  | 0, _ => rfl
  | n + 1, h => by
    refine Zw.ev_app (Zw.ev_pa n fun j hj => h j (by omega)) ?_
    simp only [evL, evM, h n (by omega)]

/-- The names rise, and none is longer than eleven. -/
noncomputable def Zw.rise (S : Nat → List UInt8) (n : Nat) : Prop := ∀ j, j < n → (S j).length ≤ 10 ∧ ∀ i, i < j → Zw.lt (S i) (S j)
noncomputable def Zw.ins (S : Nat → List UInt8) (x : List UInt8) (q j : Nat) : List UInt8 := if j < q then S j else if j = q then x else S (j - 1)
noncomputable def Zw.add (L : Nat → List UInt8) (n : Nat) (x : List UInt8) (j : Nat) : List UInt8 := if j < n then L j else x
theorem Zw.rise_ins {S : Nat → List UInt8} {k q : Nat} {x : List UInt8} (h : Zw.rise S k) (hx : x.length ≤ 10) (hq : q ≤ k) (h1 : ∀ i, i < k → (i < q → Zw.lt (S i) x) ∧ (q ≤ i → Zw.lt x (S i))) : Zw.rise (Zw.ins S x q) (k + 1) := fun j hj => by
  unfold Zw.ins
  by_cases c1 : j < q
  · rw [if_pos c1]
    obtain ⟨u1, u3⟩ := h j (by omega)
    refine ⟨u1, fun i hi => ?_⟩
    rw [if_pos (by omega)]; exact u3 i hi
  · rw [if_neg c1]
    by_cases c2 : j = q
    · rw [if_pos c2]
      refine ⟨hx, fun i hi => ?_⟩
      rw [if_pos (by omega)]; exact (h1 i (by omega)).1 (by omega)
    · rw [if_neg c2]
      obtain ⟨u1, u3⟩ := h (j - 1) (by omega)
      refine ⟨u1, fun i hi => ?_⟩
      by_cases c3 : i < q
      · rw [if_pos c3]; exact u3 i (by omega)
      · rw [if_neg c3]
        by_cases c4 : i = q
        · rw [if_pos c4]; exact (h1 (j - 1) (by omega)).2 (by omega)
        · rw [if_neg c4]; exact u3 (i - 1) (by omega)
theorem Zw.find (S : Nat → List UInt8) (x : List UInt8) : ∀ k, Zw.rise S k → (∃ p, p < k ∧ S p = x) ∨ (∃ q, q ≤ k ∧ ∀ i, i < k → (i < q → Zw.lt (S i) x) ∧ (q ≤ i → Zw.lt x (S i)))
  | 0, _ => .inr ⟨0, Nat.le_refl _, fun i hi => absurd hi (Nat.not_lt_zero _)⟩
  | k + 1, h => by
    obtain ⟨_, hk3⟩ := h k (by omega)
    rcases Zw.find S x k (fun j hj => h j (by omega)) with ⟨p, h1, h2⟩ | ⟨q, h1, h2⟩
    · exact .inl ⟨p, by omega, h2⟩
    · rcases Nat.lt_or_ge q k with h3 | h3
      · refine .inr ⟨q, by omega, fun i hi => ?_⟩
        rcases Nat.lt_or_ge i k with h4 | h4
        · exact h2 i h4
        · obtain rfl : i = k := by omega
          exact ⟨fun h5 => by omega, fun _ => Zc.trans ((h2 q h3).2 (Nat.le_refl _)) (hk3 q h3)⟩
      · obtain rfl : q = k := by omega
        rcases Zc.cases (120 :: S q) (120 :: x) with ⟨h4, _⟩ | h4 | ⟨_, h4⟩
        · refine .inr ⟨q + 1, Nat.le_refl _, fun i hi => ⟨fun _ => ?_, fun h5 => by omega⟩⟩
          rcases Nat.lt_or_ge i q with h6 | h6
          · exact (h2 i h6).1 h6
          · obtain rfl : i = q := by omega
            exact h4
        · exact .inl ⟨q, by omega, by injection h4⟩
        · refine .inr ⟨q, by omega, fun i hi => ?_⟩
          rcases Nat.lt_or_ge i q with h6 | h6
          · exact h2 i h6
          · obtain rfl : i = q := by omega
            exact ⟨fun h7 => by omega, fun _ => h4⟩

theorem Zw.blt_t {a b : Nat} (h : a < b) : Nat.blt a b = true := Nat.ble_eq_true_of_le h
theorem Zw.blt_f {a b : Nat} (h : b ≤ a) : Nat.blt a b = false := by
  cases hb : Nat.blt a b with
  | false => rfl
  | true => have := Nat.le_of_ble_eq_true hb; omega
theorem Zw.beq_t {a b : Nat} (h : a = b) : Nat.beq a b = true := h ▸ Nat.beq_refl a
theorem Zw.beq_f {a b : Nat} (h : a ≠ b) : Nat.beq a b = false := by
  cases hb : Nat.beq a b with
  | false => rfl
  | true => exact absurd (Nat.eq_of_beq_eq_true hb) h
theorem Zw.pr_hold {m : Mu} {x y i j : Nat} {a b : List UInt8} (hx : m.at_ x = some (.string (Zw.nm a))) (hy : m.at_ y = some (.string (Zw.nm b))) (h1 : i < j → Zw.lt a b) (h2 : i = j → a = b) (h3 : j < i → Zw.lt b a) : AllHold m (Zw.pr x y i j) := by
  have key : Lib.compareBytes (Zw.nm a).data.toList (Zw.nm b).data.toList = Zw.sg i j ∧ ((Zw.nm a).data.toList == (Zw.nm b).data.toList) = Nat.beq i j := by
    rw [Zw.nm_data, Zw.nm_data]
    unfold Zw.sg
    rcases Nat.lt_trichotomy i j with c | c | c
    · rw [Zw.blt_t c, Zw.beq_f (by omega)]
      exact ⟨h1 c, beq_eq_false_iff_ne.2 (Zc.ne (h1 c))⟩
    · rw [Zw.blt_f (by omega), Zw.beq_t c, h2 c]
      exact ⟨Zc.self _, beq_self_eq_true _⟩
    · rw [Zw.blt_f (by omega), Zw.beq_f (by omega)]
      exact ⟨Zc.flip (h3 c), beq_eq_false_iff_ne.2 fun e => Zc.ne (h3 c) e.symm⟩
  exact ⟨⟨_, _, .atom _ _ hx, .atom _ _ hy, by rw [key.1]; exact .int _ _⟩, ⟨_, _, _, .atom _ _ hx, .atom _ _ hy, Zw.eql_b key.2, .bool _⟩, trivial⟩
theorem Zw.rise_pr {m : Mu} {S : Nat → List UInt8} {n : Nat} (hr : Zw.rise S n) {x y i j : Nat} (hi : i < n) (hj : j < n) (hx : m.at_ x = some (.string (Zw.nm (S i)))) (hy : m.at_ y = some (.string (Zw.nm (S j)))) : AllHold m (Zw.pr x y i j) :=
  Zw.pr_hold hx hy (fun c => (hr j hj).2 i c) (fun c => by rw [c]) (fun c => (hr i hi).2 j c)

/-- What stands ahead of the names among a node's atoms. -/
noncomputable def Zw.hd (a0 : Option Addr) (m0 c0 : Nat) (n1 : Int) (i : Nat) : List Value := [.slice a0 m0 c0, .int .i64 n1, .int .i64 (i : Int)]
noncomputable def Zw.vs (a0 : Option Addr) (m0 c0 : Nat) (n1 : Int) (i n : Nat) (S L : Nat → List UInt8) : List Value := Zw.hd a0 m0 c0 n1 i ++ (Zw.sv S n ++ Zw.sv L n)
theorem Zw.vs_len {a0 : Option Addr} {m0 c0 : Nat} {n1 : Int} {i n : Nat} {S L : Nat → List UInt8} : 3 + 2 * n = (Zw.vs a0 m0 c0 n1 i n S L).length := by
  simp only [Zw.vs, Zw.hd, List.length_append, Zw.sv_len, List.length_cons, List.length_nil]; omega
theorem Zw.vs_one {a0 : Option Addr} {m0 c0 : Nat} {n1 : Int} {i n : Nat} {S L : Nat → List UInt8} : (Zw.vs a0 m0 c0 n1 i n S L).all (·.oneCell') = true := by
  simp only [Zw.vs, List.all_append, Zw.sv_one]; rfl
theorem Zw.at_S {a0 : Option Addr} {m0 c0 : Nat} {n1 : Int} {i n : Nat} {S L : Nat → List UInt8} {rows : List Pl} {ex : List Value} {j : Nat} (hj : j < n) : (nodeMu 8 rows (Zw.vs a0 m0 c0 n1 i n S L ++ ex)).at_ (Zw.sA j) = some (.string (Zw.nm (S j))) := by
  have hl := Zw.sv_len S n
  unfold Zw.vs
  rw [← List.append_assoc, List.append_assoc (Zw.hd a0 m0 c0 n1 i ++ Zw.sv S n), Zw.atC (i := j) (by simp only [Zw.hd, Zw.sA, List.length_cons, List.length_nil]) (by omega)]
  exact Zw.sv_get S n j hj
theorem Zw.at_L {a0 : Option Addr} {m0 c0 : Nat} {n1 : Int} {i n : Nat} {S L : Nat → List UInt8} {rows : List Pl} {ex : List Value} {j : Nat} (hj : j < n) : (nodeMu 8 rows (Zw.vs a0 m0 c0 n1 i n S L ++ ex)).at_ (Zw.lA n j) = some (.string (Zw.nm (L j))) := by
  have hl := Zw.sv_len S n
  have hl2 := Zw.sv_len L n
  unfold Zw.vs
  rw [← List.append_assoc, Zw.atC (i := j) (by simp only [Zw.hd, Zw.lA, List.length_append, List.length_cons, List.length_nil, hl]; omega) (by omega)]
  exact Zw.sv_get L n j hj

theorem Zw.nE {W : World} (htab : Zw.Need W) {a0 : Option Addr} {m0 c0 i n : Nat} {n1 : Int} {S L : Nat → List UInt8} (r1 : R64 n1) (hn : n ≤ 8) (hr : Zw.rise S n) (hL : ∀ j, j < n → ∃ r, r < n ∧ L j = S r) (e : Nat) (he : (e = 0 ∧ (m0 : Int) ≤ (i : Int)) ∨ (e = 1 ∧ (i : Int) < (m0 : Int) ∧ 8 ≤ i)) :
    NdGood Tryz.prog Tryz.f3 8 Tryz.H0 W Zw.p0 (Zw.dN n) (Zw.vs a0 m0 c0 n1 i n S L) := by
  have hX : ∀ {rows : List Pl} {ex : List Value}, (nodeMu 8 rows (Zw.vs a0 m0 c0 n1 i n S L ++ ex)).at_ (Zw.bb n) = some (.int .i64 (m0 : Int)) → AllHold (nodeMu 8 rows (Zw.vs a0 m0 c0 n1 i n S L ++ ex)) (Zw.tX n e) := fun {rows ex} x0 => by
    have y0 : (nodeMu 8 rows (Zw.vs a0 m0 c0 n1 i n S L ++ ex)).at_ 1000 = some (.slice a0 m0 c0) := rfl
    have y2 : (nodeMu 8 rows (Zw.vs a0 m0 c0 n1 i n S L ++ ex)).at_ 1002 = some (.int .i64 (i : Int)) := rfl
    rcases he with ⟨rfl, h1⟩ | ⟨rfl, h1, h2⟩
    · exact ⟨hold_len (.atom _ _ y0) (.atom _ _ x0), Zw.hCC y2 x0 (op_lss_f h1), trivial⟩
    · exact ⟨hold_len (.atom _ _ y0) (.atom _ _ x0), Zw.hCC y2 x0 (op_lss_t h1), Zw.hC y2 (op_lss_f (by omega)), trivial⟩
  have he2 : e < 2 := by rcases he with ⟨rfl, _⟩ | ⟨rfl, _⟩ <;> omega
  have hid : (Zw.dN n).sub 8 [] (idl 8 (Zw.dN n).objs) (idA (3 + 2 * n)) ((Zw.dN n).st 8 []) = true := Zw.rep_ Zw.rhE n (by omega)
  rcases Nat.eq_zero_or_pos n with h0 | h0
  · subst h0
    have x0 : (nodeMu 8 [] (Zw.vs a0 m0 c0 n1 i 0 S L ++ [.int .i64 (m0 : Int)])).at_ (Zw.bb 0) = some (.int .i64 (m0 : Int)) := rfl
    refine Zw.fx htab (Zw.TE 0 e 0 0) [.int .i64 (m0 : Int)] [] (fun sy => Zw.k0 Zw.mS sy) (Zw.ah_app (hX x0) trivial) hid Zw.vs_len rfl rowsHold_nil (Zw.qE0 he2)
  · obtain ⟨t1, ⟨_, f1, z1, u1, w1⟩, g1, o1⟩ := ex_rem n1 (n : Int) (by omega) (by omega)
    obtain ⟨t2, f2, g2, o2⟩ := ex_add t1 (n : Int)
    obtain ⟨t3, ⟨_, f3, z3, u3, w3⟩, g3, o3⟩ := ex_rem t2 (n : Int) (by omega) (by omega)
    have k2 : t2 = t1 + n := by omega
    have k0 : 0 ≤ t2 := by omega
    have k3 : 0 ≤ t3 := by rw [f3 k0]; exact Int.emod_nonneg _ (by omega)
    obtain ⟨j, rfl⟩ : ∃ j : Nat, t3 = (j : Int) := ⟨t3.toNat, by omega⟩
    have hj : j < n := by omega
    obtain ⟨r, hrn, hLr⟩ := hL j hj
    generalize hex : ([.int .i64 (m0 : Int), .int .i64 t1, .int .i64 t2] ++ (List.range n).map fun i => Value.int .i64 (((Zw.nm (S i)).size : Nat) : Int)) = ex
    have ho : ex.all (·.oneCell') = true := by
      rw [← hex, List.all_append]
      have : ((List.range n).map fun i => Value.int .i64 (((Zw.nm (S i)).size : Nat) : Int)).all (·.oneCell') = true := by
        rw [List.all_eq_true]; intro x hx
        obtain ⟨i, _, rfl⟩ := List.mem_map.1 hx
        rfl
      rw [this]; rfl
    generalize hm : nodeMu 8 [] (Zw.vs a0 m0 c0 n1 i n S L ++ ex) = m
    have xS : ∀ k, k < n → m.at_ (Zw.sA k) = some (.string (Zw.nm (S k))) := fun k hk => by rw [← hm]; exact Zw.at_S hk
    have xL : m.at_ (Zw.lA n j) = some (.string (Zw.nm (S r))) := by rw [← hm, ← hLr]; exact Zw.at_L hj
    have y1 : m.at_ 1001 = some (.int .i64 n1) := by rw [← hm]; rfl
    have x0 : m.at_ (Zw.bb n) = some (.int .i64 (m0 : Int)) := by rw [← hm, Zw.atX (t := 0) (by rw [← Zw.vs_len]; unfold Zw.bb; omega), ← hex]; rfl
    have x1 : m.at_ (Zw.bb n + 1) = some (.int .i64 t1) := by rw [← hm, Zw.atX (t := 1) (by rw [← Zw.vs_len]; unfold Zw.bb; omega), ← hex]; rfl
    have x2 : m.at_ (Zw.bb n + 2) = some (.int .i64 t2) := by rw [← hm, Zw.atX (t := 2) (by rw [← Zw.vs_len]; unfold Zw.bb; omega), ← hex]; rfl
    have xc : ∀ k, k < n → m.at_ (Zw.cL n k) = some (.int .i64 (((Zw.nm (S k)).size : Nat) : Int)) := fun k hk => by
      rw [← hm, Zw.atX (t := 3 + k) (by rw [← Zw.vs_len]; unfold Zw.cL Zw.bb; omega), ← hex, List.getElem?_append_right (by simp only [List.length_cons, List.length_nil]; omega)]
      simp only [List.length_cons, List.length_nil, List.getElem?_map]
      rw [show 3 + k - (0 + 1 + 1 + 1) = k by omega, List.getElem?_range hk]; rfl
    have hold : AllHold m (Zw.TE n e j r) := by
      unfold Zw.TE
      rw [Zw.beq_f (by omega)]
      refine Zw.ah_app (by rw [← hm]; rw [← hm] at x0; exact hX x0) (Zw.ah_app ?_ (Zw.ah_cat n fun k hk => Zw.ah_app ?_ (Zw.ah_app (Zw.rise_pr hr hk hrn (xS k hk) xL) (Zw.ah_app (Zw.rise_pr hr hrn hk xL (xS k hk)) (Zw.ah_cat n fun l hl => Zw.rise_pr hr hk hl (xS k hk) (xS l hl))))))
      · exact ⟨hold_op (.atom _ _ y1) (.int _ _) (o1 .i64) (.atom _ _ x1), hold_op (.atom _ _ x1) (.int _ _) o2 (.atom _ _ x2), hold_op (.atom _ _ x2) (.int _ _) (o3 .i64) (.int _ _),
          ⟨_, .atom _ _ xL, by rw [Zw.nm_size]; have := (hr r hrn).1; omega, .any _⟩, trivial⟩
      · have hlen := (hr k hk).1
        refine ⟨⟨_, .atom _ _ (xS k hk), .atom _ _ (xc k hk)⟩, Zw.hC (xc k hk) (op_geq_t (by omega)), ⟨_, .i64, 0, .atom _ _ (xS k hk), .int _ _, by omega, ?_⟩, ⟨_, .i64, 1, .atom _ _ (xS k hk), .int _ _, by rw [Zw.nm_size]; omega, ?_⟩, ⟨_, .atom _ _ (xS k hk), by rw [Zw.nm_size]; omega, .any _⟩, trivial⟩
        · have : (Zw.nm (S k)).extract 0 0 = ⟨#[]⟩ := by
            have hz : ((Zw.nm (S k)).extract 0 0).data.toList = [] := by rw [ByteArray.data_extract, Array.toList_extract]; rfl
            generalize (Zw.nm (S k)).extract 0 0 = z at hz
            obtain ⟨⟨z⟩⟩ := z
            cases hz; rfl
          rw [this]; exact .str _
        · have : (Zw.nm (S k)).extract 0 1 = ⟨#[120]⟩ := by
            have hz : ((Zw.nm (S k)).extract 0 1).data.toList = [120] := by rw [ByteArray.data_extract, Array.toList_extract, Zw.nm_data]; rfl
            generalize (Zw.nm (S k)).extract 0 1 = z at hz
            obtain ⟨⟨z⟩⟩ := z
            cases hz; rfl
          rw [this]; exact .str _
    rw [← hm] at hold
    exact Zw.fx htab (Zw.TE n e j r) ex [] (fun sy => Zw.k0 Zw.mS sy) hold hid Zw.vs_len (by rw [List.all_append, Zw.vs_one, ho]; rfl) rowsHold_nil (Zw.qE ⟨h0, hn⟩ he2 hj hrn)

theorem Zw.nA {W : World} (htab : Zw.Need W) {a0 : Option Addr} {m0 c0 : Nat} {f0q0 : Nat → ByteArray} {n1 : Int} (h0 : SlcOk W a0 m0 c0 1 (fun i => [.string (f0q0 i)])) (b0 : (m0 : Int) < 9223372036854775808) (r1 : R64 n1) :
    ∀ (k i : Nat), i ≤ 8 → 8 - i < k → ∀ (n : Nat) (S L : Nat → List UInt8), n ≤ i → Zw.rise S n → (∀ j, j < n → ∃ r, r < n ∧ L j = S r) →
    NdGood Tryz.prog Tryz.f3 8 Tryz.H0 W Zw.p0 (Zw.dN n) (Zw.vs a0 m0 c0 n1 i n S L)
  | 0, _, _, h => absurd h (Nat.not_lt_zero _)
  | k + 1, i, hi, hk => by
    intro n S L hn hr hL
    by_cases q1 : (i : Int) < (m0 : Int)
    case neg => exact Zw.nE htab r1 (by omega) hr hL 0 (.inl ⟨rfl, Int.not_lt.1 q1⟩)
    case pos =>
    rcases Nat.lt_or_ge i 8 with q2 | q2
    case inr => exact Zw.nE htab r1 (by omega) hr hL 1 (.inr ⟨rfl, q1, q2⟩)
    case inl =>
    obtain ⟨p0, v0⟩ := h0.elem (show i < m0 by omega)
    obtain ⟨d, e, g, o⟩ := ex_add (i : Int) (1 : Int)
    obtain rfl : d = ((i + 1 : Nat) : Int) := by omega
    generalize hs : f0q0 i = s
    generalize hw : s.extract 0 (min s.size 10) = w
    have hwl : w.data.toList.length ≤ 10 := by
      have h1 : w.size = min (min s.size 10) s.size - 0 := by rw [← hw, ByteArray.size_extract]
      have h2 : w.data.toList.length = w.size := by rw [Array.length_toList]; rfl
      omega
    generalize hx : w.data.toList = x at hwl
    have hnm : (⟨#[120]⟩ : ByteArray) ++ w = Zw.nm x := by
      have hz : ((⟨#[120]⟩ : ByteArray) ++ w).data.toList = (Zw.nm x).data.toList := by rw [ByteArray.data_append, Array.toList_append, hx]; rfl
      generalize (⟨#[120]⟩ : ByteArray) ++ w = z at hz
      have h2 := Array.toList_inj.1 hz
      cases z; exact congrArg ByteArray.mk h2
    generalize hm : nodeMu 8 [p0] (Zw.vs a0 m0 c0 n1 i n S L ++ [.int .i64 (m0 : Int), .string s, .int .i64 (s.size : Int), .int .i64 (if (10 : Int) < (s.size : Int) then 10 else (s.size : Int)), .string w, .string (Zw.nm x), .int .i64 (((Zw.nm x).size : Nat) : Int), .int .i64 ((i + 1 : Nat) : Int)]) = m
    have y0 : m.at_ 1000 = some (.slice a0 m0 c0) := by rw [← hm]; rfl
    have y1 : m.at_ 1001 = some (.int .i64 n1) := by rw [← hm]; rfl
    have y2 : m.at_ 1002 = some (.int .i64 (i : Int)) := by rw [← hm]; rfl
    have x0 : m.at_ (Zw.bb n) = some (.int .i64 (m0 : Int)) := by rw [← hm, Zw.atX (t := 0) (by rw [← Zw.vs_len]; unfold Zw.bb; omega)]; rfl
    have x1 : m.at_ (Zw.bb n + 1) = some (.string s) := by rw [← hm, Zw.atX (t := 1) (by rw [← Zw.vs_len]; unfold Zw.bb; omega)]; rfl
    have x2 : m.at_ (Zw.bb n + 2) = some (.int .i64 (s.size : Int)) := by rw [← hm, Zw.atX (t := 2) (by rw [← Zw.vs_len]; unfold Zw.bb; omega)]; rfl
    have x3 : m.at_ (Zw.bb n + 3) = some (.int .i64 (if (10 : Int) < (s.size : Int) then 10 else (s.size : Int))) := by rw [← hm, Zw.atX (t := 3) (by rw [← Zw.vs_len]; unfold Zw.bb; omega)]; rfl
    have x4 : m.at_ (Zw.bb n + 4) = some (.string w) := by rw [← hm, Zw.atX (t := 4) (by rw [← Zw.vs_len]; unfold Zw.bb; omega)]; rfl
    have x5 : m.at_ (Zw.bb n + 5) = some (.string (Zw.nm x)) := by rw [← hm, Zw.atX (t := 5) (by rw [← Zw.vs_len]; unfold Zw.bb; omega)]; rfl
    have x6 : m.at_ (Zw.bb n + 6) = some (.int .i64 (((Zw.nm x).size : Nat) : Int)) := by rw [← hm, Zw.atX (t := 6) (by rw [← Zw.vs_len]; unfold Zw.bb; omega)]; rfl
    have x7 : m.at_ (Zw.bb n + 7) = some (.int .i64 ((i + 1 : Nat) : Int)) := by rw [← hm, Zw.atX (t := 7) (by rw [← Zw.vs_len]; unfold Zw.bb; omega)]; rfl
    have hp0 : m.pl 8 = some p0 := by rw [← hm]; rfl
    have xS : ∀ k, k < n → m.at_ (Zw.sA k) = some (.string (Zw.nm (S k))) := fun k hk => by rw [← hm]; exact Zw.at_S hk
    have xL : ∀ k, k < n → m.at_ (Zw.lA n k) = some (.string (Zw.nm (L k))) := fun k hk => by rw [← hm]; exact Zw.at_L hk
    have hR : ∀ z, m.at_ z = some (.string (Zw.nm x)) → AllHold m (Zw.tR (Zw.bb n) z) := fun z hz =>
      ⟨hold_len (.atom _ _ y0) (.atom _ _ x0), Zw.hCC y2 x0 (op_lss_t q1), Zw.hC y2 (op_lss_t (by omega)), hold_idx v0 (show i < m0 by omega) (.atom _ _ y0) (.atom _ _ y2) rfl hp0,
        ⟨s, .atom _ _ x1, .atom _ _ x2⟩, ⟨.i64, (s.size : Int), 10, .atom _ _ x2, .int _ _, .atom _ _ x3⟩,
        ⟨s, .i64, min s.size 10, .atom _ _ x1, by
          have : (if (10 : Int) < (s.size : Int) then (10 : Int) else (s.size : Int)) = ((min s.size 10 : Nat) : Int) := by split <;> omega
          rw [this] at x3; exact .atom _ _ x3, by omega, by rw [hw]; exact .atom _ _ x4⟩,
        ⟨⟨#[120]⟩, w, .string (Zw.nm x), .str _, .atom _ _ x4, by
          simp only [strOpA]
          rw [if_pos, hnm]
          have h2 : w.data.toList.length = w.size := by rw [Array.length_toList]; rfl
          show 1 + w.size < 2 ^ 62
          rw [← h2, hx]
          have : (11 : Nat) < 2 ^ 62 := by decide
          omega, .atom _ _ hz⟩,
        ⟨_, .atom _ _ hz, .atom _ _ x6⟩, ⟨_, ⟨#[]⟩, _, .atom _ _ hz, .str _, Zw.eql_b (b := false) (by rw [Zw.nm_data]; rfl), .bool _⟩, Zw.hC x6 (op_gtr_f (by rw [Zw.nm_size]; omega)), hold_op (.atom _ _ y2) (.int _ _) o (.atom _ _ x7), trivial⟩
    have hrow : RowsHold W m [p0] [[ch (Zw.bb n + 1)]] := by
      refine rowsHold_cons (Elem.row v0 ?_) rowsHold_nil
      show VL m [ch (Zw.bb n + 1)] [Value.string (f0q0 i)]
      rw [hs]
      exact VL.cons (.atom _ _ x1) VL.nil
    have two : evL m (Zw.A3 n) = some (Zw.hd a0 m0 c0 n1 (i + 1)) := by simp only [Zw.A3, Zw.hd, evL, evM, y0, y1, x7]
    have next := Zw.nA htab h0 b0 r1 k (i + 1) q2 (by omega)
    have hid : (Zw.dN n).sub 8 [[ch (Zw.bb n + 1)]] (idl 8 (Zw.dN n).objs) (idA (3 + 2 * n)) ((Zw.dN n).st 8 []) = true := Zw.rep_ Zw.rhR n (by omega)
    have go : ∀ (t : List SE), AllHold m t → ∀ {n' : Nat} {S' L' : Nat → List UInt8} {rl : List (Nat × Nat)} {P : List Value}, leafNext (fK (Tryz.Es Zw.mS (syOf t)) 100000 100000 Zw.p0 ((Zw.dN n).st 8 [[ch (Zw.bb n + 1)]]) 1) 8 (Zw.dN n') rl (Zw.A3 n ++ P) = some Zw.p0 → evL m P = some (Zw.sv S' n' ++ Zw.sv L' n') →
        n' ≤ i + 1 → Zw.rise S' n' → (∀ j, j < n' → ∃ r, r < n' ∧ L' j = S' r) → NdGood Tryz.prog Tryz.f3 8 Tryz.H0 W Zw.p0 (Zw.dN n) (Zw.vs a0 m0 c0 n1 i n S L) := fun t hold n' S' L' rl P hrun hev hn' hr' hL' => by
      have hev' := Zw.ev_app two hev
      have hrow' := hrow
      rw [← hm] at hold hrow' hev'
      exact Zw.nx htab t _ [p0] (fun sy => Zw.k0 Zw.mS sy) hold hid hrow' hrun (next _ _ _ hn' hr' hL') Zw.vs_len (by rw [List.all_append, Zw.vs_one]; rfl) hev' Zw.vs_one
    rcases Zw.find S x n hr with ⟨p, hp, hf⟩ | ⟨q, hq, hf⟩
    · refine go (Zw.T n p) ?_ (Zw.qI (by omega) hp) (Zw.ev_app (Zw.ev_pa n xS) (Zw.ev_pa n xL)) (by omega) hr hL
      unfold Zw.T
      rw [Zw.blt_t hp]
      refine Zw.ah_app (hR _ (by rw [xS p hp, hf])) (Zw.ah_cat n fun j hj => Zw.ah_app (Zw.rise_pr hr hj hp (xS j hj) (xS p hp)) ?_)
      by_cases c : j = p
      · rw [Zw.beq_t c]; trivial
      · rw [Zw.beq_f c]; exact Zw.rise_pr hr hp hj (xS p hp) (xS j hj)
    · refine go (Zw.T n (n + q)) ?_ (S' := Zw.ins S x q) (L' := Zw.add L n x) (Zw.qP (by omega) (by omega)) (Zw.ev_app (Zw.ev_pa (n + 1) fun j hj => ?_) (Zw.ev_pa (n + 1) fun j hj => ?_)) (by omega) (Zw.rise_ins hr hwl hq hf) ?_
      · unfold Zw.T
        rw [Zw.blt_f (by omega), show n + q - n = q by omega]
        refine Zw.ah_app (hR _ x5) (Zw.ah_cat n fun j hj => Zw.ah_app (Zw.pr_hold (xS j hj) x5 (fun c => (hf j hj).1 (by omega)) (fun c => by omega) (fun c => (hf j hj).2 (by omega))) (Zw.pr_hold x5 (xS j hj) (fun c => (hf j hj).2 (by omega)) (fun c => by omega) (fun c => (hf j hj).1 (by omega))))
      · unfold Zw.insA Zw.ins
        by_cases c1 : j < q
        · rw [Zw.blt_t c1, if_pos c1]; exact xS j (by omega)
        · rw [Zw.blt_f (by omega), if_neg c1]
          by_cases c2 : j = q
          · rw [Zw.beq_t c2, if_pos c2]; exact x5
          · rw [Zw.beq_f c2, if_neg c2]; exact xS (j - 1) (by omega)
      · unfold Zw.lP Zw.add
        by_cases c1 : j < n
        · rw [Zw.blt_t c1, if_pos c1]; exact xL j c1
        · rw [Zw.blt_f (by omega), if_neg c1]; exact x5
      · intro j hj
        unfold Zw.add
        by_cases c1 : j < n
        · rw [if_pos c1]
          obtain ⟨r, hrn, hLr⟩ := hL j c1
          by_cases c2 : r < q
          · exact ⟨r, by omega, by unfold Zw.ins; rw [if_pos c2]; exact hLr⟩
          · exact ⟨r + 1, by omega, by unfold Zw.ins; rw [if_neg (by omega), if_neg (by omega)]; exact hLr⟩
        · rw [if_neg c1]
          exact ⟨q, by omega, by unfold Zw.ins; rw [if_neg (by omega), if_pos rfl]⟩

theorem Zw.n0 {W : World} (htab : Zw.Need W) {a0 : Option Addr} {m0 c0 : Nat} {f0q0 : Nat → ByteArray} {n1 : Int} (h0 : SlcOk W a0 m0 c0 1 (fun i => [.string (f0q0 i)])) (b0 : (m0 : Int) < 9223372036854775808) (r1 : R64 n1) :
    NdGood Tryz.prog Tryz.f3 8 Tryz.H0 W Zw.pS Zw.d0 [(.slice a0 m0 c0), (.int .i64 n1)] :=
  Zw.nx htab [] [] [] (fun sy => Zw.kS Zw.mS sy) trivial Zw.iS rowsHold_nil Zw.rS (Zw.nA htab h0 b0 r1 9 0 (by omega) (by omega) 0 (fun _ => []) (fun _ => []) (by omega) (fun j hj => absurd hj (Nat.not_lt_zero _)) (fun j hj => absurd hj (Nat.not_lt_zero _))) rfl rfl rfl rfl
end Go.Proofs
