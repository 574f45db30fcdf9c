/- What the printed proofs use: slices of the arguments, sums, remainders, entries of the tables. -/
import Derived.Test.YtfahjdpepgedpaaGreatDoorVLeaf
import Derived.Laws.BitsLemmas
set_option linter.all false
namespace Go.Vsx
open Go Go.RowKit

def xx : Value := .chan none
abbrev ch (n : Nat) : Value := .chan (some n)
def bs (l : List Nat) : ByteArray := ⟨(l.map UInt8.ofNat).toArray⟩
noncomputable def ncL (l : List SE) : List SE := @List.rec SE (fun _ => List SE) [] (fun a b _ => a :: b) l
def poison (n : Nat) : List (Nat × Value) := (List.range n).map fun t => (t, .chan none)

def R64 (x : Int) : Prop := -9223372036854775808 ≤ x ∧ x < 9223372036854775808

/-- A slice of an argument: where it lies, its length and capacity, its elements' cells. -/
def SlcOk (W : World) (a : Option Addr) (n c ec : Nat) (F : Nat → List Value) : Prop :=
  n ≤ c ∧ (c = 0 ∨ ∃ blk off, a = some ⟨blk, off, none⟩ ∧ ∃ cs e fr, W.heap[blk]? = some (.cells cs e fr) ∧ ∀ i, i < n → ∀ (t : Nat) x, (F i)[t]? = some x → cs[off + i * ec + t]? = some x)

/-- An element lies there. -/
structure Elem (W : World) (a : Option Addr) (ec : Nat) (F : Nat → List Value) (i : Nat) (p : Pl) : Prop where
  at_ : ∃ blk off, a = some ⟨blk, off, none⟩ ∧ p = ⟨blk, off + i * ec, 0⟩
  cs : ∃ c e fr, W.heap[p.blk]? = some (.cells c e fr) ∧ ∀ (t : Nat) x, (F i)[t]? = some x → c[p.off + t]? = some x

theorem SlcOk.elem {W : World} {a : Option Addr} {n c ec : Nat} {F : Nat → List Value} (h : SlcOk W a n c ec F) {i : Nat} (hi : i < n) : ∃ p, Elem W a ec F i p := by
  obtain ⟨hc, h | ⟨blk, off, rfl, cs, e, fr, h1, h2⟩⟩ := h
  · omega
  · exact ⟨⟨blk, off + i * ec, 0⟩, ⟨blk, off, rfl, rfl⟩, ⟨cs, e, fr, h1, h2 i hi⟩⟩

theorem hold_idx {W : World} {m : Mu} {a : Option Addr} {n c ec : Nat} {F : Nat → List Value} {i : Nat} {p : Pl} (h : Elem W a ec F i p) (hi : i < n) {x y : Value} {k : IntKind} {ix : Int} {v : Nat} (hx : VR m x (.slice a n c)) (hy : VR m y (.int k ix)) (he : ix = (i : Int))
    (hp : m.pl v = some p) : SymHolds m (.idx ec) x y (.pointer (some ⟨v, 0, none⟩)) := by
  obtain ⟨⟨blk, off, rfl, rfl⟩, _⟩ := h
  subst he
  exact ⟨blk, off, n, c, k, i, hx, hy, hi, .ptr v 0 _ hp⟩

def RowHold (W : World) (m : Mu) (p : Pl) (l : List Value) : Prop :=
  ∃ c e fr, W.heap[p.blk]? = some (.cells c e fr) ∧ ∀ (i : Nat) v, l[i]? = some v → ∃ x, c[p.off + i]? = some x ∧ VR m v x
theorem rowsHold_nil {W : World} {m : Mu} : RowsHold W m [] [] := ⟨rfl, fun j p l hj => by cases hj⟩
theorem rowsHold_cons {W : World} {m : Mu} {p : Pl} {l : List Value} {ps : List Pl} {ls : List (List Value)} (h : RowHold W m p l) (k : RowsHold W m ps ls) : RowsHold W m (p :: ps) (l :: ls) := by
  refine ⟨by simp [k.1], fun j q r hq hr => ?_⟩
  cases j with
  | zero => simp at hq hr; subst hq; subst hr; exact h
  | succ j => exact k.2 j q r (by simpa using hq) (by simpa using hr)
theorem Elem.row {W : World} {m : Mu} {a : Option Addr} {ec : Nat} {F : Nat → List Value} {i : Nat} {p : Pl} (h : Elem W a ec F i p) {l : List Value} (hv : VL m l (F i)) : RowHold W m p l := by
  obtain ⟨c, e, fr, h1, h2⟩ := h.cs
  refine ⟨c, e, fr, h1, fun t v ht => ?_⟩
  obtain ⟨x, k1, k2⟩ := hv.getElem? ht
  exact ⟨x, h2 t x k1, k2⟩
theorem vb {m : Mu} {b c : Bool} (h : c = b) : VR m (.bool b) (.bool c) := h ▸ .bool _

theorem r64_wrap (n : Int) : R64 ((n + 9223372036854775808) % 18446744073709551616 - 9223372036854775808) := by unfold R64; omega
theorem ex_add (a b : Int) : ∃ d : Int, d = (a + b + 9223372036854775808) % 18446744073709551616 - 9223372036854775808 ∧ R64 d ∧ intOpA .add .i64 a b = some (.int .i64 d) :=
  ⟨_, rfl, r64_wrap _, by simp only [intOpA, IntKind.wrap_i64]⟩
theorem ex_sub (a b : Int) : ∃ d : Int, d = (a - b + 9223372036854775808) % 18446744073709551616 - 9223372036854775808 ∧ R64 d ∧ intOpA .sub .i64 a b = some (.int .i64 d) :=
  ⟨_, rfl, r64_wrap _, by simp only [intOpA, IntKind.wrap_i64]⟩
theorem ex_mul (a b : Int) : ∃ d : Int, d = (a * b + 9223372036854775808) % 18446744073709551616 - 9223372036854775808 ∧ R64 d ∧ intOpA .mul .i64 a b = some (.int .i64 d) :=
  ⟨_, rfl, r64_wrap _, by simp only [intOpA, IntKind.wrap_i64]⟩
theorem tmod_cases (a c : Int) (hc : 0 < c) : (0 ≤ a → a.tmod c = a % c) ∧ (a < 0 → a.tmod c = -((-a) % c)) := by
  refine ⟨fun h => Int.tmod_eq_emod_of_nonneg h, fun h => ?_⟩
  have : a = -(-a) := by omega
  rw [this, Int.neg_tmod, Int.tmod_eq_emod_of_nonneg (by omega : 0 ≤ -a)]; simp
theorem ex_rem (a c : Int) (hc : 0 < c) (h64 : c < 9223372036854775808) : ∃ d : Int, (d = a.tmod c ∧ (0 ≤ a → d = a % c) ∧ (a < 0 → d = -((-a) % c)) ∧ -c < d ∧ d < c) ∧ R64 d ∧ ∀ k, intOpA .rem k a c = some (.int k d) := by
  have h := tmod_rng (a := a) (c := c) hc
  obtain ⟨h1, h2⟩ := tmod_cases a c hc
  refine ⟨_, ⟨rfl, h1, h2, h.1, h.2⟩, ⟨by omega, by omega⟩, fun k => ?_⟩
  simp only [intOpA, if_neg (show ¬ c = 0 by omega)]
theorem ex_conv (k : IntKind) (a : Int) : ∃ d : Int, d = k.wrap a := ⟨_, rfl⟩
theorem hold_conv {m : Mu} {x r : Value} {k k0 : IntKind} {n d : Int} (hx : VR m x (.int k0 n)) (hr : VR m r (.int k d)) (h : d = k.wrap n) : SymHolds m (.conv k) x (.int .i64 0) r := ⟨k0, n, hx, h ▸ hr⟩
theorem hold_same {m : Mu} {x : Value} {n : Int} (hx : VR m x (.int .i64 n)) (h : R64 n) : SymHolds m (.conv .i64) x (.int .i64 0) x :=
  ⟨.i64, n, hx, by rw [wrap64 h.1 h.2]; exact hx⟩
theorem hold_len {m : Mu} {x r : Value} {a : Option Addr} {n c : Nat} (hx : VR m x (.slice a n c)) (hr : VR m r (.int .i64 (n : Int))) : SymHolds m .len x (.int .i64 0) r := ⟨a, n, c, hx, hr⟩
theorem hold_mn_l {m : Mu} {x y : Value} {k : IntKind} {a b : Int} (hx : VR m x (.int k a)) (hy : VR m y (.int k b)) (h : ¬ b < a) : SymHolds m .mn x y x := ⟨k, a, b, hx, hy, by rw [if_neg h]; exact hx⟩
theorem hold_mn_r {m : Mu} {x y : Value} {k : IntKind} {a b : Int} (hx : VR m x (.int k a)) (hy : VR m y (.int k b)) (h : b < a) : SymHolds m .mn x y y := ⟨k, a, b, hx, hy, by rw [if_pos h]; exact hy⟩
theorem hold_mx_l {m : Mu} {x y : Value} {k : IntKind} {a b : Int} (hx : VR m x (.int k a)) (hy : VR m y (.int k b)) (h : ¬ b > a) : SymHolds m .mx x y x := ⟨k, a, b, hx, hy, by rw [if_neg h]; exact hx⟩
theorem hold_mx_r {m : Mu} {x y : Value} {k : IntKind} {a b : Int} (hx : VR m x (.int k a)) (hy : VR m y (.int k b)) (h : b > a) : SymHolds m .mx x y y := ⟨k, a, b, hx, hy, by rw [if_pos h]; exact hy⟩
theorem hold_fix {m : Mu} {x : Value} {k : IntKind} {n v : Int} (hx : VR m x (.int k n)) (h : n = v) : SymHolds m .fix x (.int .i64 0) (.int k v) := ⟨k, n, hx, h ▸ .int _ _⟩
theorem hold_op {m : Mu} {op : BinOp} {x y r : Value} {k : IntKind} {a b : Int} {r' : Value} (hx : VR m x (.int k a)) (hy : VR m y (.int k b)) (h : intOpA op k a b = some r') (hr : VR m r r') : SymHolds m (.bin op) x y r := ⟨k, k, a, b, r', hx, hy, intOpX_of h, hr⟩
theorem hold_sh {m : Mu} {op : BinOp} {x y r : Value} {k k' : IntKind} {a b : Int} {r' : Value} (hx : VR m x (.int k a)) (hy : VR m y (.int k' b)) (h : intOpX op k k' a b = some r') (hr : VR m r r') : SymHolds m (.bin op) x y r := ⟨k, k', a, b, r', hx, hy, h, hr⟩
end Go.Vsx
