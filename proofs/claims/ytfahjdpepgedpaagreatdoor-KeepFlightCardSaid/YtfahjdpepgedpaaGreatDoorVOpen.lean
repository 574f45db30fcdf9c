/- Tables of operations on atoms: how they are laid, and what makes an entry right. -/
import Derived.Test.YtfahjdpepgedpaaGreatDoorVMemo
import Derived.Laws.BitsLemmas
set_option linter.all false
namespace Go.Vsx
open Go Go.RowKit

noncomputable def syAdd (e : SE) (t : PT (List SE)) : PT (List SE) :=
  match atomKey e.x e.y with
  | none => t
  | some a => match t.get a with
    | none => t.set a (some [e])
    | some l => t.set a (some (e :: l))
noncomputable def syOf (l : List SE) : PT (List SE) := l.foldr syAdd PT.roomA

theorem syOf_mem : ∀ {l : List SE} {a : Nat} {l' : List SE}, (syOf l).get a = some l' → ∀ e ∈ l', e ∈ l
  | [], a, l', h, e, he => by rw [show (syOf []).get a = none from PT.get_roomA a] at h; cases h
  | x :: l, a, l', h, e, he => by
    have h' : (syAdd x (syOf l)).get a = some l' := h
    unfold syAdd at h'
    split at h'
    · exact List.mem_cons_of_mem _ (syOf_mem h' e he)
    · rename_i b hb
      split at h'
      · rw [PT.get_set] at h'
        split at h'
        · cases h'
          rw [List.mem_singleton] at he
          exact he ▸ List.mem_cons_self
        · exact List.mem_cons_of_mem _ (syOf_mem h' e he)
      · rename_i l0 hl0
        rw [PT.get_set] at h'
        split at h'
        · cases h'
          rcases List.mem_cons.1 he with rfl | he
          · exact List.mem_cons_self
          · exact List.mem_cons_of_mem _ (syOf_mem hl0 e he)
        · exact List.mem_cons_of_mem _ (syOf_mem h' e he)

def AllHold (m : Mu) : List SE → Prop
  | [] => True
  | e :: l => SymHolds m e.op e.x e.y e.r ∧ AllHold m l
theorem AllHold.mem {m : Mu} : ∀ {l : List SE}, AllHold m l → ∀ e ∈ l, SymHolds m e.op e.x e.y e.r
  | [], _, _, he => by cases he
  | x :: l, h, e, he => by
    rcases List.mem_cons.1 he with rfl | he
    · exact h.1
    · exact h.2.mem e he
theorem AllHold.append {m : Mu} : ∀ {l l' : List SE}, AllHold m l → AllHold m l' → AllHold m (l ++ l')
  | [], _, _, h => h
  | _ :: _, _, h, h' => ⟨h.1, h.2.append h'⟩
theorem symOk_of {E : Env} {m : Mu} {l : List SE} (hE : E.sy = syOf l) (h : AllHold m l) : SymOk E m :=
  .of_mem fun a l' e x hx => h.mem x (syOf_mem (hE ▸ e) x hx)

/-- Atoms from 1000 on. -/
def atomsOf (vals : List Value) (k : Nat) : Option Value := if 1000 ≤ k then vals[k - 1000]? else none
theorem atomsOf_ok {vals : List Value} {ng : Nat} (hng : ng ≤ 1000) (h : vals.all (·.oneCell') = true) : ∀ k x, atomsOf vals k = some x → x.oneCell' = true ∧ ng ≤ k := by
  intro k x hk
  unfold atomsOf at hk
  split at hk
  · rw [List.all_eq_true] at h
    exact ⟨h x (List.mem_of_getElem? hk), by omega⟩
  · cases hk

section
variable {m : Mu} {x y r : Value} {k : IntKind} {a b c : Int}
theorem hold_int {op : BinOp} (hx : VR m x (.int k a)) (hy : VR m y (.int k b)) (hr : VR m r (.int k c)) (h : intOpA op k a b = some (.int k c)) : SymHolds m (.bin op) x y r := ⟨k, k, a, b, _, hx, hy, intOpX_of h, hr⟩
theorem hold_bool {op : BinOp} {q : Bool} (hx : VR m x (.int k a)) (hy : VR m y (.int k b)) (h : intOpA op k a b = some (.bool q)) : SymHolds m (.bin op) x y (.bool q) := ⟨k, k, a, b, _, hx, hy, intOpX_of h, .bool q⟩
theorem wrap64 (h1 : -9223372036854775808 ≤ a) (h2 : a < 9223372036854775808) : IntKind.i64.wrap a = a := by rw [IntKind.wrap_i64]; omega
theorem op_add (h1 : -9223372036854775808 ≤ c) (h2 : c < 9223372036854775808) (h : a + b = c) : intOpA .add .i64 a b = some (.int .i64 c) := by
  simp only [intOpA]; rw [h, wrap64 h1 h2]
theorem op_sub (h1 : -9223372036854775808 ≤ c) (h2 : c < 9223372036854775808) (h : a - b = c) : intOpA .sub .i64 a b = some (.int .i64 c) := by
  simp only [intOpA]; rw [h, wrap64 h1 h2]
theorem op_rem (hb : b ≠ 0) (h : a.tmod b = c) : intOpA .rem k a b = some (.int k c) := by
  simp only [intOpA, if_neg hb, h]
theorem op_eql_t (h : a = b) : intOpA .eql k a b = some (.bool true) := by simp [intOpA, h]
theorem op_eql_f (h : a ≠ b) : intOpA .eql k a b = some (.bool false) := by simp [intOpA, h]
theorem op_neq_t (h : a ≠ b) : intOpA .neq k a b = some (.bool true) := by simp [intOpA, h]
theorem op_neq_f (h : a = b) : intOpA .neq k a b = some (.bool false) := by simp [intOpA, h]
theorem op_lss_t (h : a < b) : intOpA .lss k a b = some (.bool true) := by simp [intOpA, h]
theorem op_lss_f (h : b ≤ a) : intOpA .lss k a b = some (.bool false) := by simp [intOpA]; omega
theorem op_leq_t (h : a ≤ b) : intOpA .leq k a b = some (.bool true) := by simp [intOpA, h]
theorem op_leq_f (h : b < a) : intOpA .leq k a b = some (.bool false) := by simp [intOpA]; omega
theorem op_gtr_t (h : b < a) : intOpA .gtr k a b = some (.bool true) := by simp [intOpA]; omega
theorem op_gtr_f (h : a ≤ b) : intOpA .gtr k a b = some (.bool false) := by simp [intOpA]; omega
theorem op_geq_t (h : b ≤ a) : intOpA .geq k a b = some (.bool true) := by simp [intOpA]; omega
theorem op_geq_f (h : a < b) : intOpA .geq k a b = some (.bool false) := by simp [intOpA]; omega
end
theorem tmod_rng {a c : Int} (hc : 0 < c) : -c < a.tmod c ∧ a.tmod c < c := ⟨Int.lt_tmod_of_pos a hc, Int.tmod_lt_of_pos a hc⟩
/-- '(a % c + c) % c'. -/
theorem cyc (a : Int) (c : Nat) (hc : 0 < c) : ∃ r : Nat, r < c ∧ (a.tmod c + c).tmod c = (r : Int) := by
  have h := tmod_rng (a := a) (c := c) (by omega)
  have h0 : 0 ≤ a.tmod c + c := by omega
  rw [Int.tmod_eq_emod_of_nonneg h0]
  have h1 := Int.emod_nonneg (a.tmod c + c) (b := (c : Int)) (by omega)
  have h2 := Int.emod_lt_of_pos (a.tmod c + c) (b := (c : Int)) (by omega)
  exact ⟨((a.tmod c + c) % c).toNat, by omega, by omega⟩
theorem all_range2 {m n : Nat} {p : Nat → Nat → Bool} (h : ((List.range m).all fun r => (List.range n).all fun s => p r s) = true) {r s : Nat} (hr : r < m) (hs : s < n) : p r s = true := by
  rw [List.all_eq_true] at h
  have := h r (List.mem_range.2 hr)
  rw [List.all_eq_true] at this
  exact this s (List.mem_range.2 hs)
theorem VL_nil {m : Mu} : VL m [] (#[] : Array Value).toList := VL.nil
end Go.Vsx
