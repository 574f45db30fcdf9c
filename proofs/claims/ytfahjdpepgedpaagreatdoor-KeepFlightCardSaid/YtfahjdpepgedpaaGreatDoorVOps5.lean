/- The operations are right, 5: append, copy, clear. -/
import Derived.Test.YtfahjdpepgedpaaGreatDoorVOps4
set_option linter.all false
namespace Go.Vsx
open Go Go.RowKit

theorem nextcap_le (n c : Nat) (h : c < n) : Builtin.nextslicecap n c ≤ 2 * n + 768 := by
  have grow : ∀ (r c : Nat), c ≤ 2 * n + 768 → (c ≤ n + n ∨ True) → Builtin.growBy n r c ≤ 2 * n + 768 := by
    intro r
    induction r with
    | zero => intro c hc _; simpa [Builtin.growBy] using hc
    | succ r ih =>
      intro c hc _
      simp only [Builtin.growBy]
      split
      · exact hc
      · rename_i hlt
        refine ih _ ?_ (.inr trivial)
        have : (c + 768) / 4 ≤ (n + 768) / 4 := Nat.div_le_div_right (by omega)
        omega
  unfold Builtin.nextslicecap
  split
  · omega
  · split
    · omega
    · exact grow 4 c (by omega) (.inr trivial)

theorem zerosA_length (z : Value) (n : Nat) : (zerosA z n).length = n * z.cells.size := by
  simp [zerosA, List.length_flatten]

theorem zerosA_get (z : Value) (n i : Nat) (h : i < n * z.cells.size) : (zerosA z n)[i]? = z.cells[i % z.cells.size]? := by
  induction n generalizing i with
  | zero => simp at h
  | succ n ih =>
    have hz : 0 < z.cells.size := by
      rcases Nat.eq_zero_or_pos z.cells.size with h0 | h0
      · rw [h0] at h; simp at h
      · exact h0
    have e : zerosA z (n + 1) = z.cells.toList ++ zerosA z n := by simp [zerosA, List.replicate_succ]
    rw [e, List.getElem?_append]
    simp only [Array.length_toList]
    by_cases h1 : i < z.cells.size
    · rw [if_pos h1, Nat.mod_eq_of_lt h1]; simp
    · rw [if_neg h1, ih (i - z.cells.size) (by rw [Nat.add_mul, Nat.one_mul] at h; omega)]
      rw [← Nat.mod_eq_sub_mod (Nat.le_of_not_lt h1)]

theorem zeroCells_eq (z : Value) (n : Nat) : Builtin.zeroCells z.cells n = (zerosA z n).toArray := by
  apply Array.ext_getElem?
  intro i
  simp only [Builtin.zeroCells, Array.getElem?_map, List.getElem?_toArray]
  by_cases h : i < n * z.cells.size
  · rw [zerosA_get z n i h, Array.getElem?_range, if_pos h]
    have hz : i % z.cells.size < z.cells.size := Nat.mod_lt _ (by
      rcases Nat.eq_zero_or_pos z.cells.size with h0 | h0
      · rw [h0] at h; simp at h
      · exact h0)
    simp [hz]
  · rw [List.getElem?_eq_none (by rw [zerosA_length]; omega), Array.getElem?_range, if_neg h]
    rfl

section
variable {P : Program} {E : Env} (T : TyOk P E) {B : Nat} {W0 w : World} {μ : Mu} {H H' : Heap}

theorem rdCells_zero {v o : Nat} {cs : List Value} (h : rdCells H v o 0 = some cs) : cs = [] := by
  simp only [rdCells, Option.bind_eq_bind, Option.bind_eq_some_iff] at h
  obtain ⟨r, _, h⟩ := h
  split at h
  · cases h; simp
  · cases h

theorem extract0_data (s : ByteArray) (n : Nat) : (s.extract 0 n).data = (s.data.toList.take n).toArray := by
  apply Array.ext'
  simp [List.extract_eq_take_drop]

/-- What is known of a slice that is an atom. -/
def ChOk (E : Env) (μ : Mu) (x x' : Value) : Prop := ∀ a, x = .chan a → (∀ n, lenZ E a = some n → ∃ ad c, x' = .slice ad n c) ∧
  ∀ s v o, symLook E (.idx s) (.chan a) (.int .i64 0) = some (.pointer (some ⟨v, o, none⟩)) → ∃ p l c, μ.pl v = some p ∧ x' = .slice (some ⟨p.blk, p.off + o, none⟩) l c

theorem front_ok (hr : HR B W0 μ H w) {s n : Nat} {x x' : Value} {cs : List Value} (h : frontA E H s n x = some cs) (hx : VR μ x x') (hn : ∀ a l c, x = .slice a l c → n ≤ l) (hch : ∀ a, x = .chan a → ∃ ad l c, x' = .slice ad l c) (hci : ChOk E μ x x') :
    ∃ cs', (Builtin.firstCells s n x').run P w = .ok cs'.toArray w ∧ VL μ cs cs' := by
  unfold frontA at h
  split at h
  · rename_i v o sp l c
    have key : ∀ p : Pl, μ.pl v = some p → ∃ cs', (loadCells ⟨p.blk, p.off + o, none⟩ (n * s)).run P w = .ok cs'.toArray w ∧ VL μ cs cs' := by
      intro p hp
      obtain ⟨cs', hl, hvl, hcell⟩ := hr.rd h hp
      have e := run_loadCells_list (P := P) w (Addr.mk p.blk (p.off + o) none) cs' hcell
      have e2 : cs'.length = n * s := by rw [← hvl.1, hl]
      rw [e2] at e
      exact ⟨cs', e, hvl⟩
    have zero : n ≤ 0 → ∀ a : Addr, ∃ cs', (loadCells a (n * s)).run P w = .ok cs'.toArray w ∧ VL μ cs cs' := by
      intro h0 a
      have : n = 0 := by omega
      subst this
      rw [Nat.zero_mul] at h ⊢
      have := rdCells_zero h
      subst this
      exact ⟨[], by simp [loadCells, loadCellsFrom], VL.nil⟩
    have hnl := hn _ _ _ rfl
    cases hx with
    | slc _ _ _ _ p hp => exact key p hp
    | slo _ _ _ _ p hp => exact key p hp
    | slcE _ _ q p hp => exact zero hnl _
    | sloE _ _ q p hp => exact zero hnl _
  · cases h; cases hx
    exact ⟨[], by simp [Builtin.firstCells], VL.nil⟩
  · rename_i b
    cases h; cases hx
    refine ⟨(b.data.toList.take n).map fun x => Value.int .u8 x.toNat, ?_, ?_⟩
    · simp only [Builtin.firstCells, Sem.run_pure]
      rw [extract0_data]
      simp
    · refine ⟨by simp, ?_⟩
      intro i v v' hv hv'
      rw [hv] at hv'; cases hv'
      simp only [List.getElem?_map, Option.map_eq_some_iff] at hv
      obtain ⟨_, _, rfl⟩ := hv
      exact .int _ _
  · rename_i a
    split at h
    · cases h
      obtain ⟨ad, l, c, rfl⟩ := hch a rfl
      refine ⟨[], ?_, VL.nil⟩
      cases ad with
      | none => simp [Builtin.firstCells]
      | some ad => simp [Builtin.firstCells, loadCells, loadCellsFrom]
    · rename_i n
      split at h
      case h_2 => cases h
      case h_1 v o hlk =>
      obtain ⟨p, l, c, hp, rfl⟩ := (hci a rfl).2 _ _ _ hlk
      obtain ⟨cs', hl, hvl, hcell⟩ := hr.rd h hp
      have e := run_loadCells_list (P := P) w (Addr.mk p.blk (p.off + o) none) cs' hcell
      have e2 : cs'.length = (n + 1) * s := by rw [← hvl.1, hl]
      rw [e2] at e
      exact ⟨cs', e, hvl⟩
  · cases h

/-- Append that makes a new row. -/
theorem grow_ok (hr : HR B W0 μ H w) {e : TypeId} {size k : Nat} {old new old' new' : List Value} {zc : List Value} (ho : VL μ old old') (hn : VL μ new new')
    (hlen : old.length + new.length = (k) * size) (kx : Nat) (hz : zc.length = kx * size) :
    ∃ w' μ', (newRow e (old'.toArray ++ new'.toArray ++ zc.toArray)).run P w = .ok ⟨w.heap.size, 0, none⟩ w' ∧ μ.le μ' ∧
      HR B W0 μ' (H.add (.row ⟨old ++ new, k * size, e, size, false, true, false⟩)) w' ∧ μ'.pl H.next = some ⟨w.heap.size, 0, kx⟩ := by
  have hle : μ.le (μ.ext H.next ⟨w.heap.size, 0, kx⟩) := Mu.le_ext (hr.fresh _ (Nat.le_refl _))
  have hon := ho.append hn
  refine ⟨_, _, by simp [newRow]; rfl, hle, ?_, Mu.ext_same ..⟩
  have := hr.pushOpen ⟨old ++ new, k * size, e, size, false, true, false⟩ (old'.toArray ++ new'.toArray ++ zc.toArray) (0, 0) kx rfl rfl ?_ ?_ ?_ (.inl rfl) (fun _ => rfl)
  · simpa using this
  · intro i v hv
    obtain ⟨v', a, b⟩ := hon.getElem? hv
    refine ⟨v', ?_, b⟩
    have hi : i < (old' ++ new').length := (List.getElem?_eq_some_iff.1 a).1
    rw [Array.getElem?_append_left (by simpa using hi)]
    rw [← a]; simp
  · simp [hlen]
  · have h1 := ho.1
    have h2 := hn.1
    simp [hz]; omega

theorem wrap_small (l : Int) (h0 : 0 ≤ l) (h1 : l < 2 ^ 62) : IntKind.i64.wrap l = l := by
  have e : l % (2 ^ IntKind.i64.bits : Int) = l := Int.emod_eq_of_lt h0 (by show l < 2 ^ 64; omega)
  unfold IntKind.wrap
  simp only [e]
  rw [if_neg]
  have : ¬ (l ≥ (2 ^ (IntKind.i64.bits - 1) : Int)) := by
    show ¬ (l ≥ (2 ^ 63 : Int))
    omega
  simp only [Bool.and_eq_true, decide_eq_true_eq]
  exact fun h => this h.2

/-- What 'append' runs, once its element, its count and its new cells are known. -/
def appendTail (e : TypeId) (size n : Nat) (zeros : Bool) (base : Option Addr) (sLen sCap : Nat) (s x : Value) (appended : Sem (Array Value)) : Sem Value := do
  let need := sLen + n
  if need ≤ sCap then
    let new ← appended
    if let some a := base then storeCells (a.add (sLen * size)) new.toList
    pure (.slice base need sCap)
  else
    if (need : Int) > IntKind.i64.max ∧ (zeros ∨ (← typeInfo e).bytes = 0) then runtimePanic (.error "growslice: len out of range")
    if Builtin.nextslicecap need sCap * (← typeInfo e).bytes > 2 ^ 48 then (if zeros then runtimePanic (.error "growslice: len out of range") else do
      if !(← Builtin.mayShare size sLen n base x) then mark .noRoom
      unsupported (.resourceLimit "append: a slice or a string whose bytes no memory bears"))
    let newCap ← choose (.appendCap need sCap e)
    askRoom (newCap * (← typeInfo e).bytes)
    let old ← Builtin.firstCells size sLen s
    let new ← appended
    let rest := Builtin.zeroCells (← zeroValue e).cells (newCap - need)
    pure (.slice (some (← newRow e (old ++ new ++ rest))) need newCap)

def isIntD : TypeDesc → Bool
  | .int _ => true
  | _ => false
def appS (e : TypeId) (size n : Nat) (x' : Value) : TypeDesc → Sem (Array Value)
  | .int _ => if n * size = 0 then pure #[] else do pure (Builtin.zeroCells (← zeroValue e).cells n)
  | _ => Builtin.firstCells size n x'

include T
theorem append_head {sT xT e : TypeId} {i : TI} {xd : TypeDesc} {n : Nat} {base : Option Addr} {sLen sCap : Nat} {x' : Value} {ts : Array TypeId} {ty : TypeId}
    (h0 : ts[0]? = some sT) (h1 : ts[1]? = some xT) (hs : tyD E sT = some (.slice e)) (hi : E.tt.get e = some i) (hxd : tyD E xT = some xd)
    (hn : (∃ (k k' : IntKind) (l : Int), xd = .int k ∧ x' = .int k' l ∧ 0 ≤ l ∧ l < 2 ^ 40 ∧ n = l.toNat ∧ n * i.bytes ≤ 2 ^ 44) ∨ ((∀ k, xd ≠ .int k) ∧ (Builtin.lenOf x').run P w = .ok n w)) :
    (Builtin.append_ ts ty #[.slice base sLen sCap, x']).run P w =
      (appendTail e i.size n (isIntD xd) base sLen sCap (.slice base sLen sCap) x' (appS e i.size n x' xd)).run P w := by
  obtain ⟨info, j1, j2, j3, _⟩ := T.info hi w
  rcases hn with ⟨k, k', l, rfl, rfl, hl0, hl1, rfl, hb⟩ | ⟨hne, hlen⟩
  · have hw : IntKind.i64.wrap l = l := wrap_small l hl0 (by omega)
    have hb' : ¬ (281474976710656 < l * (i.bytes : Int)) := by
      have : (l.toNat * i.bytes : Nat) = (l * i.bytes : Int) := by
        rw [Int.natCast_mul, Int.toNat_of_nonneg hl0]
      omega
    have hneg : ¬ (l < 0) := by omega
    have hb2 : ¬ (l * (i.bytes : Int) > 2 ^ 48) := hb'
    simp only [Builtin.append_, h0, h1, List.getElem?_toArray, List.getElem?_cons_zero, List.getElem?_cons_succ, Sem.run_bind, T.run_und hs, Result.andThen_ok, T.run_size' hi, T.run_und hxd]
    simp only [asInt, asIntOf, Sem.run_bind, Sem.run_pure, Sem.run_ite, Result.andThen_ok, hw, if_neg hneg, j1, j3, if_true, if_neg hb2, Bool.not_true, Bool.false_eq_true, if_false, appendTail, isIntD, appS]
    rfl
  · have hz : (match xd with | .int _ => true | _ => false) = false := by
      cases xd <;> first | rfl | exact absurd rfl (hne _)
    simp only [Builtin.append_, h0, h1, List.getElem?_toArray, List.getElem?_cons_zero, List.getElem?_cons_succ, Sem.run_bind, T.run_und hs, Result.andThen_ok, T.run_size' hi, T.run_und hxd]
    cases xd with
    | int k => exact absurd rfl (hne _)
    | _ =>
      simp only [hlen, Sem.run_bind, Sem.run_pure, Sem.run_ite, Result.andThen_ok, Bool.not_false, if_true, Bool.false_eq_true, if_false, appendTail, isIntD, appS]
      rfl

omit T in
theorem tail_room {e : TypeId} {size n sLen sCap : Nat} {zeros : Bool} {base : Option Addr} {s x : Value} {app : Sem (Array Value)} {new : List Value} {w' : World}
    (hle : sLen + n ≤ sCap) (ha : app.run P w = .ok new.toArray w) (hst : (match base with | some a => (storeCells (a.add (sLen * size)) new).run P w | none => .ok () w) = .ok () w') :
    (appendTail e size n zeros base sLen sCap s x app).run P w = .ok (.slice base (sLen + n) sCap) w' := by
  simp only [appendTail]
  rw [if_pos hle]
  simp only [Sem.run_bind, ha, Result.andThen_ok]
  cases base with
  | none => simp only at hst ⊢; cases hst; rfl
  | some a => simp only [Sem.run_bind] at hst ⊢; rw [hst]; rfl

theorem tail_grow {e : TypeId} {i : TI} {z : Value} {n sLen sCap : Nat} {zeros : Bool} {base : Option Addr} {s x : Value} {app : Sem (Array Value)} {old new : List Value}
    (hi : E.tt.get e = some i) (hz : i.zero = some z) (hlt : ¬ (sLen + n ≤ sCap)) (hb1 : 1 ≤ i.bytes) (hb2 : i.bytes ≤ 1048576) (hb3 : (sLen + n) * i.bytes ≤ 2 ^ 44)
    (ho : (Builtin.firstCells i.size sLen s).run P { w with drawn := w.drawn + 1 } = .ok old.toArray { w with drawn := w.drawn + 1 }) (ha : app.run P { w with drawn := w.drawn + 1 } = .ok new.toArray { w with drawn := w.drawn + 1 }) :
    ∃ k, (appendTail e i.size n zeros base sLen sCap s x app).run P w =
      ((newRow e (old.toArray ++ new.toArray ++ (zerosA z k).toArray)).run P { w with drawn := w.drawn + 1 }).andThen fun a w' => .ok (.slice (some a) (sLen + n) (sLen + n + k)) w' := by
  obtain ⟨k, hk⟩ := run_appendCap P (sLen + n) sCap e w
  obtain ⟨info, j1, j2, j3, j4, _⟩ := T.info hi w
  obtain ⟨info', j1', j2', j3', j4', _⟩ := T.info hi { w with drawn := w.drawn + 1 }
  refine ⟨k, ?_⟩
  have hneed : sLen + n ≤ 2 ^ 44 := Nat.le_trans (Nat.le_mul_of_pos_right _ hb1) hb3
  have c1 : ¬ (((sLen + n : Nat) : Int) > IntKind.i64.max ∧ (zeros = true ∨ info.bytes = 0)) := by
    rw [IntKind.max_i64]; omega
  have c2 : ¬ (Builtin.nextslicecap (sLen + n) sCap * info.bytes > 2 ^ 48) := by
    have h1 := nextcap_le (sLen + n) sCap (by omega)
    have h2 : Builtin.nextslicecap (sLen + n) sCap * i.bytes ≤ (2 * (sLen + n) + 768) * i.bytes := Nat.mul_le_mul_right _ h1
    have h3 : (2 * (sLen + n) + 768) * i.bytes = 2 * ((sLen + n) * i.bytes) + 768 * i.bytes := by rw [Nat.add_mul, Nat.mul_assoc]
    rw [j3]; omega
  have hsub : sLen + n + k - (sLen + n) = k := by omega
  simp only [appendTail]
  rw [if_neg hlt]
  simp only [Sem.run_bind, j1, Result.andThen_ok, if_neg c1, Sem.run_pure, if_neg c2, hk, j1', run_askRoom, ho, ha, T.run_zero' hi hz, zeroCells_eq, hsub]

omit T in
theorem VL.self {l : List Value} (h : ∀ x ∈ l, VR μ x x) : VL μ l l := by
  refine ⟨rfl, fun i v v' a b => ?_⟩
  rw [a] at b; cases b
  exact h v (List.mem_of_getElem? a)

omit T in
theorem VL_zeros {z : Value} (h : ∀ μ, VR μ z z) (n : Nat) : VL μ (zerosA z n) (zerosA z n) := by
  refine VL.self fun x hx => ?_
  simp only [zerosA, List.mem_flatten, List.mem_replicate] at hx
  obtain ⟨l, ⟨_, rfl⟩, hx⟩ := hx
  obtain ⟨i, hi⟩ := List.getElem?_of_mem hx
  exact (VR.self_cells h μ).2 i x x hi hi

/-- A slice that is appended to, of an address. -/
theorem append_ok (hr : HR B W0 μ H w) {sT xT : TypeId} {s x s' x' v : Value} {ts : Array TypeId} {ty : TypeId} (h : appendA E H sT xT s x = some (v, H')) (hs : VR μ s s') (hx : VR μ x x')
    (h0 : ts[0]? = some sT) (h1 : ts[1]? = some xT) (hci : ChOk E μ x x') : SOk P B W0 μ w (Builtin.append_ ts ty #[s', x']) v H' := by
  simp only [appendA, Option.bind_eq_bind, Option.bind_eq_some_iff] at h
  obtain ⟨d, hd, h⟩ := h
  split at h
  case h_2 => cases h
  case h_1 e =>
  simp only [Option.bind_eq_some_iff] at h
  obtain ⟨i, hi, xd, hxd, n, hn, h⟩ := h
  split at h
  case isTrue => cases h
  case isFalse hb =>
  simp only [Bool.not_eq_true, Bool.not_eq_false', Bool.and_eq_true, Nat.ble_eq] at hb
  obtain ⟨⟨hb1, hb2⟩, hb3⟩ := hb
  simp only [Option.pure_def, Option.bind_some, Option.bind_eq_some_iff] at h
  obtain ⟨new, hnew, h⟩ := h
  split at h
  case isTrue => cases h
  case isFalse hc =>
  simp only [Bool.or_eq_true, Bool.not_eq_true', not_or, Bool.not_eq_false, Option.isNone_iff_eq_none] at hc
  obtain ⟨⟨hone, hzs⟩, hnl⟩ := hc
  have hnl' : new.length = n * i.size := Nat.eq_of_beq_eq_true hnl
  obtain ⟨z, hz⟩ : ∃ z, i.zero = some z := Option.ne_none_iff_exists'.1 hzs
  have hzz := T.zero e i z hi hz
  -- the count
  have hN : (∃ (k k' : IntKind) (l : Int), xd = .int k ∧ x' = .int k' l ∧ 0 ≤ l ∧ l < 2 ^ 40 ∧ n = l.toNat ∧ n * i.bytes ≤ 2 ^ 44) ∨ ((∀ k, xd ≠ .int k) ∧ (Builtin.lenOf x').run P w = .ok n w ∧ ∀ a l c, x = .slice a l c → n ≤ l) := by
    split at hn
    · rename_i k k' l
      split at hn
      case isFalse => cases hn
      case isTrue hl =>
        cases hn; cases hx
        exact .inl ⟨k, k', l, rfl, rfl, hl.1, hl.2, rfl, hb3⟩
    · cases hn
    · rename_i a l c hne
      cases hn
      refine .inr ⟨fun k e => hne k e, ?_, fun a' l' c' e => by cases e; exact Nat.le_refl _⟩
      cases hx <;> rfl
    · rename_i b hne
      cases hn
      refine .inr ⟨fun k e => hne k e, ?_, fun a' l' c' e => by cases e⟩
      cases hx; rfl
    · rename_i a hne
      obtain ⟨ad, c, rfl⟩ := (hci a rfl).1 n hn
      exact .inr ⟨fun k e => hne k e, rfl, fun a' l' c' e => by cases e⟩
    · cases hn
  have hchx : (∀ k, xd ≠ .int k) → ∀ a, x = .chan a → ∃ ad l c, x' = .slice ad l c := fun hne a e => by
    subst e
    have hz : lenZ E a = some n := by
      cases xd <;> first | exact absurd rfl (hne _) | exact hn
    obtain ⟨ad, c, e⟩ := (hci a rfl).1 n hz
    exact ⟨ad, n, c, e⟩
  -- the new cells
  have hA : ∀ w1, HR B W0 μ H w1 → ∃ new', VL μ new new' ∧ (appS e i.size n x' xd).run P w1 = .ok new'.toArray w1 := by
    intro w1 hr1
    rcases hN with ⟨k, k', l, rfl, rfl, _⟩ | ⟨hne, _, hle⟩
    · simp only [hz, Option.map_some, Option.some.injEq] at hnew
      subst hnew
      refine ⟨zerosA z n, VL_zeros hzz.1 n, ?_⟩
      simp only [appS]
      by_cases h00 : n * i.size = 0
      · rw [if_pos h00]
        have : zerosA z n = [] := List.eq_nil_of_length_eq_zero (by rw [hnl', h00])
        rw [this]; rfl
      · rw [if_neg h00]
        simp [T.run_zero' hi hz, zeroCells_eq]
    · have hf : frontA E H i.size n x = some new := by
        cases xd <;> first | exact hnew | exact absurd rfl (hne _)
      obtain ⟨cs', a, b⟩ := front_ok (P := P) hr1 hf hx hle (hchx hne) hci
      refine ⟨cs', b, ?_⟩
      cases xd <;> first | exact a | exact absurd rfl (hne _)
  have hN' : (∃ (k k' : IntKind) (l : Int), xd = .int k ∧ x' = .int k' l ∧ 0 ≤ l ∧ l < 2 ^ 40 ∧ n = l.toNat ∧ n * i.bytes ≤ 2 ^ 44) ∨ ((∀ k, xd ≠ .int k) ∧ (Builtin.lenOf x').run P w = .ok n w) := by
    rcases hN with h | ⟨a, b, _⟩
    · exact .inl h
    · exact .inr ⟨a, b⟩
  have hhead := fun base sLen sCap => append_head T (ts := ts) (ty := ty) (base := base) (sLen := sLen) (sCap := sCap) h0 h1 hd hi hxd hN'
  have hr1 := hr.drawn (w.drawn + 1)
  -- a new row
  have grow : ∀ (base : Option Addr) (l c : Nat) (old : List Value) (H1 : Heap), H1.next = H.next → (∀ w1, HR B W0 μ H w1 → HR B W0 μ H1 w1) → ¬ (l + n ≤ c) → (l + n) * i.bytes ≤ 2 ^ 44 → old.length = l * i.size →
      (∃ old', VL μ old old' ∧ (Builtin.firstCells i.size l (.slice base l c)).run P { w with drawn := w.drawn + 1 } = .ok old'.toArray { w with drawn := w.drawn + 1 }) →
      SOk P B W0 μ w (Builtin.append_ ts ty #[.slice base l c, x']) (.slice (some ⟨H.next, 0, some 1⟩) (l + n) (l + n)) (H1.add (.row ⟨old ++ new, (l + n) * i.size, e, i.size, false, true, false⟩)) := by
    intro base l c old H1 hnx hH1 hlt hbb hol ⟨old', hvo, hro⟩
    obtain ⟨new', hvn, hrn⟩ := hA _ hr1
    obtain ⟨k, hk⟩ := tail_grow T (w := w) (zeros := isIntD xd) (base := base) (s := .slice base l c) (x := x') hi hz hlt hb1 hb2 hbb hro hrn
    obtain ⟨w', μ', g1, g2, g3, g4⟩ := grow_ok (P := P) (hH1 _ hr1) (e := e) (size := i.size) (k := l + n) hvo hvn (by rw [hol, hnl', Nat.add_mul]) k (zc := zerosA z k) (by rw [zerosA_length, hzz.2.1])
    refine ⟨.slice (some ⟨w.heap.size, 0, none⟩) (l + n) (l + n + k), w', μ', ?_, g2, g3, ?_⟩
    · rw [hhead, hk, g1]; rfl
    · rw [hnx] at g4
      have := VR.slo H.next 0 (l + n) (l + n) ⟨w.heap.size, 0, k⟩ g4
      simpa using this
  split at h
  · rename_i l c
    split at h
    case isFalse => cases h
    case isTrue hlc =>
    obtain ⟨rfl, rfl⟩ := hlc
    cases hs
    split at h
    case isTrue hn0 =>
      cases h
      subst hn0
      obtain ⟨new', hvn, hrn⟩ := hA w hr
      exact ⟨_, w, μ, by rw [hhead]; exact tail_room (by omega) hrn rfl, μ.le_refl, hr, .slcN 0 0⟩
    case isFalse hn0 =>
      cases h
      have := grow none 0 0 [] H rfl (fun _ h => h) (by omega) (by simpa using hb3) (by simp) ⟨[], VL.nil, by simp [Builtin.firstCells]⟩
      simpa using this
  · rename_i v0 o l c
    -- in place
    have place : ∀ (p : Pl) (c' : Nat), μ.pl v0 = some p → l + n ≤ c' → wrCells H v0 (o + l * i.size) new = some H' →
        ∃ w', (Builtin.append_ ts ty #[.slice (some ⟨p.blk, p.off + o, none⟩) l c', x']).run P w = .ok (.slice (some ⟨p.blk, p.off + o, none⟩) (l + n) c') w' ∧ HR B W0 μ H' w' := by
      intro p c' hp hle hw
      obtain ⟨new', hvn, hrn⟩ := hA w hr
      obtain ⟨w', a1, a2⟩ := hr.wr P hw hp hvn
      refine ⟨w', ?_, a2⟩
      rw [hhead]
      refine tail_room hle hrn ?_
      simp only [Addr.add_none]
      rw [← a1]; congr 3; omega
    split at h
    case isTrue hle =>
      simp only [Option.bind_eq_bind, Option.bind_eq_some_iff] at h
      obtain ⟨H2, hw, h⟩ := h
      cases h
      cases hs with
      | slc _ _ _ _ p hp =>
        obtain ⟨w', a1, a2⟩ := place p c hp hle hw
        exact ⟨_, w', μ, a1, μ.le_refl, a2, .slc _ _ _ _ p hp⟩
      | slcE _ _ q p hp =>
        have hn0 : n = 0 := by omega
        subst hn0
        have hnew0 : new = [] := List.eq_nil_of_length_eq_zero (by rw [hnl']; simp)
        subst hnew0
        obtain ⟨w', a1, a2⟩ := hr.wr P hw hp (VL.nil (μ := μ))
        simp only [storeCells, Sem.run_pure, Result.ok.injEq, true_and] at a1
        subst a1
        obtain ⟨new', hvn, hrn⟩ := hA w hr
        have hnn := hvn.nil_inv
        subst hnn
        refine ⟨_, w, μ, by rw [hhead]; exact tail_room (by omega) hrn (by simp [storeCells]), μ.le_refl, a2, .slcE _ _ q p hp⟩
    case isFalse hlt =>
      split at h
      case isTrue => cases h
      case isFalse hbb =>
      simp only [Bool.not_eq_true, Bool.not_eq_false', Nat.ble_eq] at hbb
      simp only [Option.pure_def, Option.bind_some, Option.bind_eq_some_iff] at h
      obtain ⟨old, hold, h⟩ := h
      cases h
      have hol : old.length = l * i.size := by
        simp only [rdCells, Option.bind_eq_bind, Option.bind_eq_some_iff] at hold
        obtain ⟨r, _, hold⟩ := hold
        split at hold
        · cases hold; simp; omega
        · cases hold
      have hfr : ∃ old', VL μ old old' ∧ (Builtin.firstCells i.size l s').run P { w with drawn := w.drawn + 1 } = .ok old'.toArray { w with drawn := w.drawn + 1 } := by
        obtain ⟨cs', a, b⟩ := front_ok (P := P) (E := E) hr1 (s := i.size) (n := l) (x := .slice (some ⟨v0, o, none⟩) l c) (x' := s') hold hs (fun a' l' c' e => by cases e; exact Nat.le_refl _) (fun a' e => by cases e) (fun a' e => by cases e)
        exact ⟨cs', b, a⟩
      cases hs with
      | slc _ _ _ _ p hp => exact grow _ l c old H rfl (fun _ h => h) hlt hbb hol hfr
      | slcE _ _ q p hp => exact grow _ 0 0 old H rfl (fun _ h => h) hlt hbb hol hfr
  · rename_i v0 o l c
    split at h
    case isTrue hle =>
      simp only [Option.bind_eq_bind, Option.bind_eq_some_iff] at h
      obtain ⟨H2, hw, h⟩ := h
      cases h
      cases hs with
      | slo _ _ _ _ p hp =>
        obtain ⟨new', hvn, hrn⟩ := hA w hr
        obtain ⟨w', a1, a2⟩ := hr.wr P hw hp hvn
        refine ⟨_, w', μ, ?_, μ.le_refl, a2, .slo _ _ _ _ p hp⟩
        rw [hhead]
        refine tail_room (by omega) hrn ?_
        simp only [Addr.add_none]
        rw [← a1]; congr 3; omega
      | sloE _ _ q p hp hex =>
        have hn0 : n = 0 := by omega
        subst hn0
        have hnew0 : new = [] := List.eq_nil_of_length_eq_zero (by rw [hnl']; simp)
        subst hnew0
        obtain ⟨w', a1, a2⟩ := hr.wr P hw hp (VL.nil (μ := μ))
        simp only [storeCells, Sem.run_pure, Result.ok.injEq, true_and] at a1
        subst a1
        obtain ⟨new', hvn, hrn⟩ := hA w hr
        have hnn := hvn.nil_inv
        subst hnn
        refine ⟨_, w, μ, by rw [hhead]; exact tail_room (by omega) hrn (by simp [storeCells]), μ.le_refl, a2, .sloE _ _ q p hp hex⟩
    case isFalse hlt =>
      split at h
      case isTrue => cases h
      case isFalse hbb =>
      simp only [Bool.not_eq_true, Bool.not_eq_false', Nat.ble_eq] at hbb
      simp only [Option.pure_def, Option.bind_some, Option.bind_eq_some_iff] at h
      obtain ⟨r, hrow, h⟩ := h
      split at h
      case isTrue => cases h
      case isFalse hcc =>
      simp only [Bool.or_eq_true, Bool.not_eq_true', bne_iff_ne, ne_eq, not_or, Bool.not_eq_true, Decidable.not_not, Bool.not_eq_false, Nat.ble_eq] at hcc
      obtain ⟨⟨⟨⟨⟨⟨hro, hop⟩, hfz⟩, hes⟩, hel⟩, hcl⟩, hkn⟩ := hcc
      cases h
      have hold : rdCells H v0 o (l * i.size) = some ((r.cs.drop o).take (l * i.size)) := by
        simp only [rdCells, hrow, Option.bind_eq_bind, Option.bind_some]
        rw [if_pos hkn]
      have hol : ((r.cs.drop o).take (l * i.size)).length = l * i.size := by simp; omega
      have hfr : ∃ old', VL μ ((r.cs.drop o).take (l * i.size)) old' ∧ (Builtin.firstCells i.size l s').run P { w with drawn := w.drawn + 1 } = .ok old'.toArray { w with drawn := w.drawn + 1 } := by
        obtain ⟨cs', a, b⟩ := front_ok (P := P) (E := E) hr1 (s := i.size) (n := l) (x := .slice (some ⟨v0, o, some 1⟩) l c) (x' := s') hold hs (fun a' l' c' e => by cases e; exact Nat.le_refl _) (fun a' e => by cases e) (fun a' e => by cases e)
        exact ⟨cs', b, a⟩
      cases hs with
      | sloE _ _ q p hp hex => exact grow _ 0 0 _ (H.kill v0) rfl (fun _ h => h.kill v0) hlt hbb hol hfr
      | slo _ _ _ _ p hp =>
        by_cases hin : l + n ≤ c + p.ex
        · obtain ⟨new', hvn, hrn⟩ := hA w hr
          obtain ⟨p', cc, e1, fr, a, b, k, k2⟩ := hr.row hrow
          rw [a] at hp; cases hp
          obtain ⟨he1, hcl2, hsz, hcold, hfz2, _⟩ := k2 hro
          simp only [hop, if_true] at hsz
          have hmul : (l + n) * i.size ≤ (c + p.ex) * i.size := Nat.mul_le_mul_right _ hin
          rw [hes] at hsz
          have hroom : p.off + o + (c + p.ex) * i.size ≤ cc.size := by rw [Nat.add_mul]; omega
          have hvl := hvn.1
          have hln : (l + n) * i.size = l * i.size + new'.length := by rw [Nat.add_mul, ← hvl, hnl']
          have hbound : p.off + o + l * i.size + 0 + new'.length ≤ cc.size := by omega
          have hone' := hvn.one hr.atoms (by simpa using hone)
          have hst := run_storeCells_row P p.blk (p.off + o + l * i.size) e1 fr new' 0 cc w b hbound (cold_of hcold) hone'
          simp only [Nat.add_zero] at hst
          obtain ⟨hbk, _⟩ := Array.getElem?_eq_some_iff.1 b
          have hBp : B ≤ p.blk := by
            obtain ⟨q, q1, _, q3, _⟩ := hr.obj v0 _ (Heap.row_eq hrow)
            rw [a] at q1; cases q1
            exact q3 (by simp [AObj.own, hro])
          have hk := hr.kill v0
          have hle : μ.le (μ.ext H.next ⟨p.blk, p.off + o, c + p.ex - (l + n)⟩) := Mu.le_ext (hr.fresh _ (Nat.le_refl _))
          refine ⟨.slice (some ⟨p.blk, p.off + o, none⟩) (l + n) (c + p.ex), setRow w p.blk (putCells cc (p.off + o + l * i.size) new') e1 fr, μ.ext H.next ⟨p.blk, p.off + o, c + p.ex - (l + n)⟩, ?_, hle, ?_, ?_⟩
          · rw [hhead]
            refine tail_room hin hrn ?_
            simp only [Addr.add_none]
            exact hst
          · refine hk.add (.row ⟨(r.cs.drop o).take (l * i.size) ++ new, (l + n) * i.size, e, i.size, false, true, false⟩) ⟨p.blk, p.off + o, c + p.ex - (l + n)⟩ ?_ ?_ hBp rfl ?_ ?_ ?_ ?_
            · exact ⟨rfl, rfl, rfl, by rw [setRow_size]; exact Nat.le_refl _, fun j hj => by rw [setRow_heap, if_neg (by omega)]⟩
            · rw [setRow_size]; exact Nat.le_refl _
            · intro u o' q hu hq ho' hbq
              rw [Heap.get_kill] at hu
              split at hu
              · cases hu
              · rename_i hne
                exact hne (hr.inj u v0 o' _ q p hu (Heap.row_eq hrow) ho' (by simp [AObj.own, hro]) hq a hbq)
            · intro j hj _
              rw [setRow_heap, if_neg (fun hh => hj hh.1)]
            · exact hr.aprt v0 _ p (Heap.row_eq hrow) (by simp [AObj.own, hro]) a
            · refine ⟨putCells cc (p.off + o + l * i.size) new', e1, fr, by rw [setRow_heap, if_pos ⟨rfl, hbk⟩], ?_, ?_⟩
              · intro j x hx
                rw [putCells_get _ _ _ (by omega)]
                simp only at hx ⊢
                rw [List.getElem?_append, hol] at hx
                by_cases hj : j < l * i.size
                · rw [if_pos hj, List.getElem?_take, if_pos hj, List.getElem?_drop] at hx
                  rw [if_pos (by omega)]
                  obtain ⟨x', y1, y2⟩ := k _ x hx
                  exact ⟨x', by rw [← y1]; congr 1; omega, y2.mono hle⟩
                · rw [if_neg hj] at hx
                  obtain ⟨x', y1, y2⟩ := hvn.getElem? hx
                  have hjl : j - l * i.size < new'.length := (List.getElem?_eq_some_iff.1 y1).1
                  rw [if_neg (by omega), if_pos (by omega)]
                  exact ⟨x', by rw [← y1]; congr 1; omega, y2.mono hle⟩
              · intro _
                refine ⟨by rw [he1, hel], ?_, ?_, ?_, fun _ => hfz2 hfz, fun hh => by cases hh⟩
                · simp only [List.length_append, hol, hln]; omega
                · rw [putCells_size _ _ _ (by omega)]
                  simp only [if_true]
                  have : (l + n) * i.size + (c + p.ex - (l + n)) * i.size = (c + p.ex) * i.size := by
                    rw [← Nat.add_mul]; congr 1; omega
                  omega
                · rw [putCells_size _ _ _ (by omega)]; exact hcold
          · have := VR.slo (μ := μ.ext H.next ⟨p.blk, p.off + o, c + p.ex - (l + n)⟩) H.next 0 (l + n) (l + n) ⟨p.blk, p.off + o, c + p.ex - (l + n)⟩ (Mu.ext_same ..)
            have e2 : l + n + (c + p.ex - (l + n)) = c + p.ex := by omega
            simpa [e2] using this
        · exact grow _ l (c + p.ex) _ (H.kill v0) rfl (fun _ h => h.kill v0) hin hbb hol hfr
  · cases h
end
end Go.Vsx
