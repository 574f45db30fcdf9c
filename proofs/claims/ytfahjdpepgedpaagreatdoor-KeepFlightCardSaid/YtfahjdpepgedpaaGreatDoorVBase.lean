/- The abstract heap of a verified executor: binary tries, values over virtual block numbers, and how they stand to the model's own. -/
import Derived.Laws.Cells
import Derived.Calls
import Derived.LoopN
import Derived.Below
set_option linter.all false
namespace Go.Vsx
open Go

/-! tries: a node tells where its right half begins -/
inductive PT (α : Type) where
  | leaf
  | cell (i : Nat) (v : Option α) (r : PT α)
  | node (k : Nat) (l r : PT α)

namespace PT
variable {α : Type}
noncomputable def get (t : PT α) : Nat → Option α :=
  @PT.rec α (fun _ => Nat → Option α) (fun _ => none) (fun i v _ g n => @Bool.rec (fun _ => Option α) (g n) v (Nat.beq i n)) (fun k _ _ gl gr n => @Bool.rec (fun _ => Option α) (gl n) (gr n) (Nat.ble k n)) t
noncomputable def set (t : PT α) : Nat → Option α → PT α :=
  @PT.rec α (fun _ => Nat → Option α → PT α) (fun n x => .cell n x .leaf) (fun i v r s n x => @Bool.rec (fun _ => PT α) (.cell i v (s n x)) (.cell i x r) (Nat.beq i n))
    (fun k l r sl sr n x => @Bool.rec (fun _ => PT α) (.node k (sl n x) r) (.node k l (sr n x)) (Nat.ble k n)) t
/-- Empty, from 'lo' on, with room for 2 ^ d. -/
noncomputable def full (d : Nat) : Nat → PT α :=
  @Nat.rec (fun _ => Nat → PT α) (fun _ => .leaf) (fun d g lo => .node (Nat.add lo (Nat.pow 2 d)) (g lo) (g (Nat.add lo (Nat.pow 2 d)))) d
noncomputable def room : PT α := .node 8 (full 3 0) (.node 24 (full 4 8) (.node 56 (full 5 24) (.node 120 (full 6 56) (.node 376 (full 8 120) (full 12 376)))))
noncomputable def roomA : PT α := .node 1000 .leaf (.node 1016 (full 4 1000) (.node 1080 (full 6 1016) (full 10 1080)))

theorem get_leaf (n : Nat) : (leaf : PT α).get n = none := rfl
theorem get_cell (i : Nat) (v : Option α) (r : PT α) (n : Nat) : (cell i v r).get n = if i = n then v else r.get n := by
  show @Bool.rec (fun _ => Option α) (r.get n) v (Nat.beq i n) = _
  cases h : Nat.beq i n with
  | true => rw [if_pos (Nat.eq_of_beq_eq_true h)]
  | false => rw [if_neg (Nat.ne_of_beq_eq_false h)]
theorem get_node (k : Nat) (l r : PT α) (n : Nat) : (node k l r).get n = if k ≤ n then r.get n else l.get n := by
  show @Bool.rec (fun _ => Option α) (l.get n) (r.get n) (Nat.ble k n) = _
  cases h : Nat.ble k n with
  | true => rw [if_pos (Nat.le_of_ble_eq_true h)]
  | false =>
    have : ¬ k ≤ n := fun hh => by rw [Nat.ble_eq_true_of_le hh] at h; cases h
    rw [if_neg this]
theorem set_leaf (n : Nat) (x : Option α) : (leaf : PT α).set n x = cell n x leaf := rfl
theorem set_cell (i : Nat) (v : Option α) (r : PT α) (n : Nat) (x : Option α) : (cell i v r).set n x = if i = n then cell i x r else cell i v (r.set n x) := by
  show @Bool.rec (fun _ => PT α) (cell i v (r.set n x)) (cell i x r) (Nat.beq i n) = _
  cases h : Nat.beq i n with
  | true => rw [if_pos (Nat.eq_of_beq_eq_true h)]
  | false => rw [if_neg (Nat.ne_of_beq_eq_false h)]
theorem set_node (k : Nat) (l r : PT α) (n : Nat) (x : Option α) : (node k l r).set n x = if k ≤ n then node k l (r.set n x) else node k (l.set n x) r := by
  show @Bool.rec (fun _ => PT α) (node k (l.set n x) r) (node k l (r.set n x)) (Nat.ble k n) = _
  cases h : Nat.ble k n with
  | true => rw [if_pos (Nat.le_of_ble_eq_true h)]
  | false =>
    have : ¬ k ≤ n := fun hh => by rw [Nat.ble_eq_true_of_le hh] at h; cases h
    rw [if_neg this]

theorem get_set (t : PT α) (n : Nat) (x : Option α) (m : Nat) : (t.set n x).get m = if m = n then x else t.get m := by
  induction t with
  | leaf =>
    rw [set_leaf, get_cell]
    by_cases h : m = n
    · subst h; simp
    · rw [if_neg h, if_neg (fun e => h e.symm)]
  | cell i v r ih =>
    rw [set_cell]
    by_cases h : i = n
    · subst h
      rw [if_pos rfl, get_cell, get_cell]
      by_cases e : m = i
      · subst e; simp
      · rw [if_neg e, if_neg (fun k => e k.symm), if_neg (fun k => e k.symm)]
    · rw [if_neg h, get_cell, ih, get_cell]
      by_cases e : m = n
      · subst e
        rw [if_neg h, if_pos rfl, if_pos rfl]
      · rw [if_neg e, if_neg e]
  | node k l r ihl ihr =>
    rw [set_node]
    by_cases h : k ≤ n
    · rw [if_pos h, get_node, ihr, get_node]
      by_cases e : m = n
      · subst e
        rw [if_pos h, if_pos rfl, if_pos rfl]
      · rw [if_neg e, if_neg e]
    · rw [if_neg h, get_node, ihl, get_node]
      by_cases e : m = n
      · subst e
        rw [if_neg h, if_pos rfl, if_pos rfl]
      · rw [if_neg e, if_neg e]

theorem get_full : ∀ (d lo n : Nat), (full d lo : PT α).get n = none
  | 0, _, _ => rfl
  | d + 1, lo, n => by
    show (node (Nat.add lo (Nat.pow 2 d)) (full d lo) (full d (Nat.add lo (Nat.pow 2 d))) : PT α).get n = none
    rw [get_node, get_full d, get_full d]; simp
theorem get_room (n : Nat) : (room : PT α).get n = none := by
  unfold room
  simp only [get_node, get_full, ite_self]
theorem get_roomA (n : Nat) : (roomA : PT α).get n = none := by
  unfold roomA
  simp only [get_node, get_full, get_leaf, ite_self]
theorem get_set_same (t : PT α) (n : Nat) (x : Option α) : (t.set n x).get n = x := by simp [get_set]
theorem get_set_ne (t : PT α) {n m : Nat} (x : Option α) (h : m ≠ n) : (t.set n x).get m = t.get m := by simp [get_set, h]

noncomputable def ofListFrom (t : PT α) : Nat → List α → PT α
  | _, [] => t
  | i, x :: l => ofListFrom (t.set i (some x)) (i + 1) l
theorem get_ofListFrom : ∀ (l : List α) (t : PT α) (i m : Nat), (ofListFrom t i l).get m = if i ≤ m ∧ m < i + l.length then l[m - i]? else t.get m
  | [], t, i, m => by
    simp only [ofListFrom, List.length_nil]
    rw [if_neg (by omega)]
  | x :: l, t, i, m => by
    simp only [ofListFrom, get_ofListFrom l, get_set, List.length_cons]
    by_cases h1 : m = i
    · subst h1
      rw [if_neg (by omega), if_pos rfl, if_pos (by omega)]
      simp
    · by_cases h2 : i + 1 ≤ m ∧ m < i + 1 + l.length
      · rw [if_pos h2, if_pos (by omega)]
        have : m - i = (m - (i + 1)) + 1 := by omega
        rw [this]; simp
      · rw [if_neg h2, if_neg h1, if_neg (by omega)]
end PT

/-! values over virtual blocks -/

/-- Where a virtual block lies: its block, its first cell, how many elements of capacity it has beyond what is known. -/
structure Pl where
  blk : Nat
  off : Nat
  ex : Nat

structure Mu where
  pl : Nat → Option Pl
  at_ : Nat → Option Value
  /-- Blocks of nobody's that stay as they are. -/
  kp : Nat → Option Obj

def Mu.leV (μ μ' : Mu) : Prop := (∀ v p, μ.pl v = some p → μ'.pl v = some p) ∧ ∀ v x, μ.at_ v = some x → μ'.at_ v = some x
theorem Mu.leV_refl (μ : Mu) : μ.leV μ := ⟨fun _ _ h => h, fun _ _ h => h⟩
theorem Mu.leV.trans {a b c : Mu} (h : a.leV b) (k : b.leV c) : a.leV c := ⟨fun v p e => k.1 v p (h.1 v p e), fun v p e => k.2 v p (h.2 v p e)⟩
def Mu.le (μ μ' : Mu) : Prop := (∀ v p, μ.pl v = some p → μ'.pl v = some p) ∧ (∀ v x, μ.at_ v = some x → μ'.at_ v = some x) ∧ ∀ b, μ'.kp b = μ.kp b
theorem Mu.le.v {μ μ' : Mu} (h : μ.le μ') : μ.leV μ' := ⟨h.1, h.2.1⟩
theorem Mu.le_refl (μ : Mu) : μ.le μ := ⟨fun _ _ h => h, fun _ _ h => h, fun _ => rfl⟩
theorem Mu.le.trans {a b c : Mu} (h : a.le b) (k : b.le c) : a.le c := ⟨fun v p e => k.1 v p (h.1 v p e), fun v p e => k.2.1 v p (h.2.1 v p e), fun b => (k.2.2 b).trans (h.2.2 b)⟩

inductive VR (μ : Mu) : Value → Value → Prop where
  | bool (b : Bool) : VR μ (.bool b) (.bool b)
  | int (k : IntKind) (n : Int) : VR μ (.int k n) (.int k n)
  | float (k : FloatKind) (b : Nat) : VR μ (.float k b) (.float k b)
  | str (s : ByteArray) : VR μ (.string s) (.string s)
  | ptrN : VR μ (.pointer none) (.pointer none)
  | ptr (v o : Nat) (p : Pl) (h : μ.pl v = some p) : VR μ (.pointer (some ⟨v, o, none⟩)) (.pointer (some ⟨p.blk, p.off + o, none⟩))
  | slcN (l c : Nat) : VR μ (.slice none l c) (.slice none l c)
  | slc (v o l c : Nat) (p : Pl) (h : μ.pl v = some p) : VR μ (.slice (some ⟨v, o, none⟩) l c) (.slice (some ⟨p.blk, p.off + o, none⟩) l c)
  | slo (v o l c : Nat) (p : Pl) (h : μ.pl v = some p) : VR μ (.slice (some ⟨v, o, some 1⟩) l c) (.slice (some ⟨p.blk, p.off + o, none⟩) l (c + p.ex))
  | slcE (v o q : Nat) (p : Pl) (h : μ.pl v = some p) : VR μ (.slice (some ⟨v, o, none⟩) 0 0) (.slice (some ⟨p.blk, q, none⟩) 0 0)
  | sloE (v o q : Nat) (p : Pl) (h : μ.pl v = some p) (hx : p.ex = 0) : VR μ (.slice (some ⟨v, o, some 1⟩) 0 0) (.slice (some ⟨p.blk, q, none⟩) 0 0)
  | mapN : VR μ (.map none) (.map none)
  | map (v : Nat) (p : Pl) (h : μ.pl v = some p) : VR μ (.map (some v)) (.map (some p.blk))
  | atom (v : Nat) (x : Value) (h : μ.at_ v = some x) : VR μ (.chan (some v)) x
  | any (x : Value) : VR μ (.chan none) x
  | func (f : Fn) (a a' c c' : Array Value) (ha : a.size = a'.size) (hc : c.size = c'.size)
      (h1 : ∀ (i : Nat) (v v' : Value), a[i]? = some v → a'[i]? = some v' → VR μ v v') (h2 : ∀ (i : Nat) (v v' : Value), c[i]? = some v → c'[i]? = some v' → VR μ v v') :
      VR μ (.func f a c) (.func f a' c')
  | nilF : VR μ .nilFunc .nilFunc
  | iface (t : TypeId) (v v' : Value) (h : VR μ v v') : VR μ (.iface t v) (.iface t v')
  | nilI : VR μ .nilIface .nilIface
  | agg (a a' : Array Value) (ha : a.size = a'.size) (h : ∀ (i : Nat) (v v' : Value), a[i]? = some v → a'[i]? = some v' → VR μ v v') : VR μ (.agg a) (.agg a')
  | tuple (a a' : Array Value) (ha : a.size = a'.size) (h : ∀ (i : Nat) (v v' : Value), a[i]? = some v → a'[i]? = some v' → VR μ v v') : VR μ (.tuple a) (.tuple a')

theorem VR.monoV {μ μ' : Mu} (hm : μ.leV μ') {v v' : Value} (h : VR μ v v') : VR μ' v v' := by
  induction h with
  | bool b => exact .bool b
  | int k n => exact .int k n
  | float k n => exact .float k n
  | str s => exact .str s
  | ptrN => exact .ptrN
  | ptr v o p h => exact .ptr v o p (hm.1 _ _ h)
  | slcN l c => exact .slcN l c
  | slc v o l c p h => exact .slc v o l c p (hm.1 _ _ h)
  | slo v o l c p h => exact .slo v o l c p (hm.1 _ _ h)
  | slcE v o q p h => exact .slcE v o q p (hm.1 _ _ h)
  | sloE v o q p h hx => exact .sloE v o q p (hm.1 _ _ h) hx
  | mapN => exact .mapN
  | map v p h => exact .map v p (hm.1 _ _ h)
  | atom v x h => exact .atom v x (hm.2 _ _ h)
  | any x => exact .any x
  | func f a a' c c' ha hc _ _ ih1 ih2 => exact .func f a a' c c' ha hc ih1 ih2
  | nilF => exact .nilF
  | iface t v v' _ ih => exact .iface t v v' ih
  | nilI => exact .nilI
  | agg a a' ha _ ih => exact .agg a a' ha ih
  | tuple a a' ha _ ih => exact .tuple a a' ha ih

theorem VR.mono {μ μ' : Mu} (hm : μ.le μ') {v v' : Value} (h : VR μ v v') : VR μ' v v' := h.monoV hm.v

/-- Lists of values, place by place. -/
def VL (μ : Mu) (l l' : List Value) : Prop := l.length = l'.length ∧ ∀ (i : Nat) (v v' : Value), l[i]? = some v → l'[i]? = some v' → VR μ v v'
/-- Arrays of values, place by place. -/
def VA (μ : Mu) (a a' : Array Value) : Prop := a.size = a'.size ∧ ∀ (i : Nat) (v v' : Value), a[i]? = some v → a'[i]? = some v' → VR μ v v'

theorem VL.mono {μ μ' : Mu} (hm : μ.le μ') {l l' : List Value} (h : VL μ l l') : VL μ' l l' := ⟨h.1, fun i v v' a b => (h.2 i v v' a b).mono hm⟩
theorem VA.mono {μ μ' : Mu} (hm : μ.le μ') {l l' : Array Value} (h : VA μ l l') : VA μ' l l' := ⟨h.1, fun i v v' a b => (h.2 i v v' a b).mono hm⟩
theorem VA.toList {μ : Mu} {a a' : Array Value} (h : VA μ a a') : VL μ a.toList a'.toList := ⟨by simpa using h.1, fun i v v' x y => h.2 i v v' (by simpa using x) (by simpa using y)⟩
theorem VL.toArray {μ : Mu} {l l' : List Value} (h : VL μ l l') : VA μ l.toArray l'.toArray := ⟨by simpa using h.1, fun i v v' x y => h.2 i v v' (by simpa using x) (by simpa using y)⟩
theorem VL.nil {μ : Mu} : VL μ [] [] := ⟨rfl, fun i v v' x _ => by simp at x⟩
theorem VL.cons {μ : Mu} {v v' : Value} {l l' : List Value} (h : VR μ v v') (hl : VL μ l l') : VL μ (v :: l) (v' :: l') := by
  refine ⟨by simp [hl.1], fun i x x' hx hx' => ?_⟩
  cases i with
  | zero => simp at hx hx'; subst hx; subst hx'; exact h
  | succ i => exact hl.2 i x x' (by simpa using hx) (by simpa using hx')
theorem VL.head {μ : Mu} {v v' : Value} {l l' : List Value} (h : VL μ (v :: l) (v' :: l')) : VR μ v v' := h.2 0 v v' rfl rfl
theorem VL.tail {μ : Mu} {v v' : Value} {l l' : List Value} (h : VL μ (v :: l) (v' :: l')) : VL μ l l' :=
  ⟨by simpa using h.1, fun i x x' hx hx' => h.2 (i + 1) x x' (by simpa using hx) (by simpa using hx')⟩
theorem VL.nil_inv {μ : Mu} {l' : List Value} (h : VL μ [] l') : l' = [] := by have := h.1; simp at this; exact List.eq_nil_of_length_eq_zero this.symm
theorem VL.cons_inv {μ : Mu} {v : Value} {l l' : List Value} (h : VL μ (v :: l) l') : ∃ v' r, l' = v' :: r ∧ VR μ v v' ∧ VL μ l r := by
  cases l' with
  | nil => have := h.1; simp at this
  | cons v' r => exact ⟨v', r, rfl, h.head, h.tail⟩
theorem VL.append {μ : Mu} {a a' b b' : List Value} (h : VL μ a a') (k : VL μ b b') : VL μ (a ++ b) (a' ++ b') := by
  refine ⟨by simp [h.1, k.1], fun i v v' x y => ?_⟩
  rw [List.getElem?_append] at x y
  have e := h.1
  by_cases hi : i < a.length
  · rw [if_pos hi] at x; rw [if_pos (by omega)] at y; exact h.2 i v v' x y
  · rw [if_neg hi] at x; rw [if_neg (by omega)] at y; rw [← e] at y; exact k.2 _ v v' x y
theorem VL.take {μ : Mu} {a a' : List Value} (h : VL μ a a') (n : Nat) : VL μ (a.take n) (a'.take n) := by
  refine ⟨by simp [h.1], fun i v v' x y => ?_⟩
  rw [List.getElem?_take] at x y
  by_cases hi : i < n
  · rw [if_pos hi] at x y; exact h.2 i v v' x y
  · rw [if_neg hi] at x; cases x
theorem VL.drop {μ : Mu} {a a' : List Value} (h : VL μ a a') (n : Nat) : VL μ (a.drop n) (a'.drop n) := by
  refine ⟨by simp [h.1], fun i v v' x y => ?_⟩
  rw [List.getElem?_drop] at x y
  exact h.2 _ v v' x y
theorem VL.getElem? {μ : Mu} {a a' : List Value} (h : VL μ a a') {i : Nat} {v : Value} (hv : a[i]? = some v) : ∃ v', a'[i]? = some v' ∧ VR μ v v' := by
  have hi : i < a.length := (List.getElem?_eq_some_iff.1 hv).1
  have hi' : i < a'.length := by have := h.1; omega
  exact ⟨a'[i], List.getElem?_eq_getElem hi', h.2 i v _ hv (List.getElem?_eq_getElem hi')⟩
theorem VL.replicate {μ : Mu} {v v' : Value} (h : VR μ v v') (n : Nat) : VL μ (List.replicate n v) (List.replicate n v') := by
  refine ⟨by simp, fun i x x' hx hx' => ?_⟩
  have h1 := List.eq_of_mem_replicate (List.mem_of_getElem? hx)
  have h2 := List.eq_of_mem_replicate (List.mem_of_getElem? hx')
  subst h1; subst h2; exact h
theorem VL.set {μ : Mu} {a a' : List Value} (h : VL μ a a') {v v' : Value} (hv : VR μ v v') (i : Nat) : VL μ (a.set i v) (a'.set i v') := by
  refine ⟨by simp [h.1], fun j x x' hx hx' => ?_⟩
  rw [List.getElem?_set] at hx hx'
  by_cases e : i = j
  · subst e
    have el := h.1
    by_cases hl : i < a.length
    · rw [if_pos rfl, if_pos hl] at hx
      rw [if_pos rfl, if_pos (by omega)] at hx'
      simp at hx hx'; subst hx; subst hx'; exact hv
    · rw [if_pos rfl, if_neg hl] at hx; cases hx
  · rw [if_neg e] at hx hx'; exact h.2 j x x' hx hx'

theorem VR.cells {μ : Mu} {v v' : Value} (h : VR μ v v') (hv : ∀ i, v ≠ .chan i) : VL μ v.cells.toList v'.cells.toList := by
  cases h with
  | agg a a' ha h => exact VA.toList ⟨ha, h⟩
  | atom v x h => exact absurd rfl (hv _)
  | any x => exact absurd rfl (hv _)
  | bool b => exact VL.cons (.bool b) VL.nil
  | int k n => exact VL.cons (.int k n) VL.nil
  | float k n => exact VL.cons (.float k n) VL.nil
  | str s => exact VL.cons (.str s) VL.nil
  | ptrN => exact VL.cons .ptrN VL.nil
  | ptr v o p h => exact VL.cons (.ptr v o p h) VL.nil
  | slcN l c => exact VL.cons (.slcN l c) VL.nil
  | slc v o l c p h => exact VL.cons (.slc v o l c p h) VL.nil
  | slo v o l c p h => exact VL.cons (.slo v o l c p h) VL.nil
  | slcE v o q p h => exact VL.cons (.slcE v o q p h) VL.nil
  | sloE v o q p h hx => exact VL.cons (.sloE v o q p h hx) VL.nil
  | mapN => exact VL.cons .mapN VL.nil
  | map v p h => exact VL.cons (.map v p h) VL.nil
  | func f a a' c c' ha hc h1 h2 => exact VL.cons (.func f a a' c c' ha hc h1 h2) VL.nil
  | nilF => exact VL.cons .nilF VL.nil
  | iface t v v' h => exact VL.cons (.iface t v v' h) VL.nil
  | nilI => exact VL.cons .nilI VL.nil
  | tuple a a' ha h => exact VL.cons (.tuple a a' ha h) VL.nil
end Go.Vsx
