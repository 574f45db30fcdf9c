/- Strings by contract: strconv.Itoa, strings.Repeat, strings.Join of strings that are atoms. -/
import Derived.Test.YtfahjdpepgedpaaGreatDoorVLeaf
import Derived.Lib.AppendIntMem
import Derived.Lib.LaidTab
import Derived.Lib.LaidU8
import Derived.Shelf.Strconv.Itoa3
import Derived.Shelf.Strings.OnBuilder
import Derived.Shelf.Strings.Repeat
set_option linter.all false
namespace Go.Vsx
open Go Go.RowKit Go.Proofs

theorem HR.stays {B : Nat} {W0 w w' : World} {μ : Mu} {H : Heap} (hr : HR B W0 μ H w) (hbel : Below w.heap.size w w') : HR B W0 μ H w' :=
  hr.of_world (hbel.mono hr.base) hbel.size (fun v o p hv hp => hbel.block _ (hr.blk_lt hv hp)) (fun b O e => hbel.block _ (Array.getElem?_eq_some_iff.1 (hr.kept b O e)).1)

theorem args_one {μ : Mu} {x : Value} {a : Array Value} (h : VL μ [x] a.toList) : ∃ x', a = #[x'] ∧ VR μ x x' := by
  obtain ⟨x', r, e, h1, h2⟩ := h.cons_inv
  have := h2.nil_inv; subst this
  exact ⟨x', Array.toList_inj.1 (by simpa using e), h1⟩
theorem args_two {μ : Mu} {x y : Value} {a : Array Value} (h : VL μ [x, y] a.toList) : ∃ x' y', a = #[x', y'] ∧ VR μ x x' ∧ VR μ y y' := by
  obtain ⟨x', r, e, h1, h2⟩ := h.cons_inv
  obtain ⟨y', r', e', h3, h4⟩ := h2.cons_inv
  have := h4.nil_inv; subst this; subst e'
  exact ⟨x', y', Array.toList_inj.1 (by simpa using e), h1, h3⟩

theorem repA_eq (l : List UInt8) : ∀ n, repA l n = Lib.repeatL l n
  | 0 => rfl
  | n + 1 => by rw [repA, Lib.repeatL, repA_eq l n]
def FnIs (P : Program) (f : FuncId) : Prop := ∃ fn, P.funcs[f]? = some fn ∧ fn.body.isNone = false ∧ (fn.name == "runtime.NumGoroutine") = false

theorem itoa_fits {P : Program} {E : Env} {ng : Nat} {H0 : Heap} {W : World} {m : Mu} {f : FuncId} {ρ : Shelf.Ren} (hf : FnIs P f) (L : LaysM.n171 P ρ) (hρ : ρ.f 171 = f) (Y : SymOk E m)
    (htab : Lib.TabIs P W "internal/strconv.uint64pow10" .u64 Lib.pow10Tab) : PrimFits P E (lawG ng H0 W m) f .itoa := by
  refine ⟨hf, fun args H v H' h B W0 μ w args' hr g hl => ?_⟩
  unfold primA at h
  simp only [] at h
  have hb : Below W.heap.size W w := by
    have := hr.below; rw [g.2.1.2.1, g.2.1.2.2] at this; exact this
  have ht := Lib.tabBelow_of_tabIs htab w hb
  subst hρ
  split at h
  case h_3 => cases h
  case h_1 n =>
    split at h
    case isFalse => cases h
    case isTrue hn =>
    cases h
    obtain ⟨x', rfl, hx⟩ := args_one hl
    cases hx
    refine (Any.strconv_Itoa L n (by omega) (by omega) w ht).mono ?_
    rintro e w' ⟨rfl, k, os, rfl⟩
    refine ⟨μ, _, rfl, μ.le_refl, hr.stays (Lib.below_grow _ w (Nat.le_refl _) k os), ?_⟩
    have : Lib.itoa n = [UInt8.ofNat (48 + n.toNat)] := by
      unfold Lib.itoa
      rw [if_neg (by omega), Lib.decDigits, dif_pos (by omega)]
    rw [this]; exact .str _
  case h_2 x _ =>
  obtain ⟨r, h1, h2⟩ := Option.map_eq_some_iff.1 h
  cases h2
  obtain ⟨x', rfl, hx⟩ := args_one hl
  obtain ⟨o1, _, _⟩ := symLook_mem h1
  obtain ⟨n, k1, k2, k3, k4⟩ := (Y.mono g.2.2) _ _ _ _ h1
  rw [hx.one o1 k1]
  refine (Any.strconv_Itoa L n k2 k3 w ht).mono ?_
  rintro e w' ⟨rfl, k, os, rfl⟩
  exact ⟨μ, _, rfl, μ.le_refl, hr.stays (Lib.below_grow _ w (Nat.le_refl _) k os), k4⟩

theorem rep_fits {P : Program} {E : Env} {G : GS} {f : FuncId} {ρ : Shelf.Ren} (hf : FnIs P f) (L : Lays.n105 P ρ) (X : Builder.Extra P ρ) (hρ : ρ.f 105 = f) (Y : SymOk E G.m0) : PrimFits P E G f .rep := by
  refine ⟨hf, fun args H v H' h B W0 μ w args' hr g hl => ?_⟩
  unfold primA at h
  simp only [] at h
  split at h
  case h_3 => cases h
  case h_1 s n =>
    split at h
    case isFalse => cases h
    case isTrue hn =>
    cases h
    obtain ⟨x', y', rfl, hx, hy⟩ := args_two hl
    cases hx; cases hy
    subst hρ
    obtain ⟨k, rfl⟩ : ∃ k : Nat, n = (k : Int) := ⟨n.toNat, by omega⟩
    refine (Any.strings_Repeat L X s k w (by omega) (Nat.le_trans (Nat.mul_le_mul (Nat.le_of_lt hn.2.2) (show k ≤ 64 by omega)) (by decide))).mono ?_
    rintro e w' ⟨rfl, hb⟩
    refine ⟨μ, _, rfl, μ.le_refl, hr.stays hb, ?_⟩
    rw [Int.toNat_natCast, repA_eq]; exact .str _
  case h_2 x y _ =>
  obtain ⟨r, h1, h2⟩ := Option.map_eq_some_iff.1 h
  cases h2
  obtain ⟨x', y', rfl, hx, hy⟩ := args_two hl
  obtain ⟨o1, o2, _⟩ := symLook_mem h1
  obtain ⟨s, n, k1, k2, k3, k5, k4⟩ := (Y.mono g.2.2) _ _ _ _ h1
  rw [hx.one o1 k1, hy.one o2 k2]
  subst hρ
  refine (Any.strings_Repeat L X s n w (by omega) (Nat.le_trans (Nat.mul_le_mul (Nat.le_of_lt k5) (Nat.le_of_lt k3)) (by decide))).mono ?_
  rintro e w' ⟨rfl, hb⟩
  exact ⟨μ, _, rfl, μ.le_refl, hr.stays hb, k4⟩

theorem catS_ok {E : Env} {μ : Mu} (Y : SymOk E μ) {a b r : Value} {s t : ByteArray} (h : catS E a b = some r) (ha : VR μ a (.string s)) (hb : VR μ b (.string t)) : VR μ r (.string (s ++ t)) := by
  unfold catS at h
  split at h
  · split at h
    · cases h; cases ha; cases hb; exact .str _
    · cases h
  · obtain ⟨o1, o2, _⟩ := symLook_mem h
    obtain ⟨s', t', r', h1, h2, h3, h4⟩ := Y _ _ _ _ h
    have e1 := ha.one o1 h1
    have e2 := hb.one o2 h2
    cases e1; cases e2
    simp only [strOpA] at h3
    split at h3
    · cases h3; exact h4
    · cases h3

theorem joinR_ok {E : Env} {μ : Mu} (Y : SymOk E μ) {sep : Value} {sp : ByteArray} (hs : VR μ sep (.string sp)) : ∀ {l : List Value} {xs : List ByteArray} {acc r : Value} {s : ByteArray}, joinR E sep acc l = some r → VR μ acc (.string s) → VL μ l (xs.map Value.string) →
    VR μ r (.string ⟨(s.data.toList ++ Lib.joinTail sp.data.toList (xs.map (·.data.toList))).toArray⟩)
  | [], xs, acc, r, s, h, ha, hv => by
    have := hv.nil_inv
    have : xs = [] := by simpa using this
    subst this
    simp only [joinR, Option.some.injEq] at h; subst h
    simpa [Lib.joinTail] using ha
  | e :: l, xs, acc, r, s, h, ha, hv => by
    obtain ⟨e', l', h1, h2, h3⟩ := hv.cons_inv
    cases xs with
    | nil => cases h1
    | cons x xs =>
    simp only [List.map_cons, List.cons.injEq] at h1
    obtain ⟨rfl, rfl⟩ := h1
    unfold joinR at h
    split at h
    case h_2 => cases h
    case h_1 a hq =>
    split at h
    case h_2 => cases h
    case h_1 b hq2 =>
    have k1 := catS_ok Y hq ha hs
    have k2 := catS_ok Y hq2 k1 h2
    have k3 := joinR_ok Y hs h k2 h3
    have : (s.data.toList ++ Lib.joinTail sp.data.toList (List.map (·.data.toList) (x :: xs))) = ((s ++ sp ++ x).data.toList ++ Lib.joinTail sp.data.toList (xs.map (·.data.toList))) := by
      simp [Lib.joinTail, List.append_assoc]
    rw [this]; exact k3

theorem strings_of {E : Env} {μ : Mu} (Y : SymOk E μ) {sep : Value} (hx : ∃ sp, VR μ sep (.string sp)) : ∀ {l l' : List Value} {acc r : Value} {s : ByteArray}, joinR E sep acc l = some r → VR μ acc (.string s) → VL μ l l' → ∃ xs : List ByteArray, l' = xs.map Value.string
  | [], l', acc, r, s, h, ha, hv => ⟨[], by have := hv.nil_inv; subst this; rfl⟩
  | e :: l, l', acc, r, s, h, ha, hv => by
    obtain ⟨sp, hs⟩ := hx
    obtain ⟨e', l2, rfl, h2, h3⟩ := hv.cons_inv
    unfold joinR at h
    split at h
    case h_2 => cases h
    case h_1 a hq =>
    split at h
    case h_2 => cases h
    case h_1 b hq2 =>
    have k1 := catS_ok Y hq ha hs
    obtain ⟨x, rfl⟩ : ∃ x, e' = .string x := by
      unfold catS at hq2
      split at hq2
      · cases h2; exact ⟨_, rfl⟩
      · obtain ⟨o1, o2, _⟩ := symLook_mem hq2
        obtain ⟨s', t', r', q1, q2, q3, q4⟩ := Y _ _ _ _ hq2
        exact ⟨_, h2.one o2 q2⟩
    have k2 := catS_ok Y hq2 k1 h2
    obtain ⟨xs, rfl⟩ := strings_of Y ⟨sp, hs⟩ h k2 h3
    exact ⟨x :: xs, rfl⟩

theorem head_of {E : Env} {μ : Mu} (Y : SymOk E μ) {sep acc e r : Value} {l : List Value} {acc' sep' : Value} (h : joinR E sep acc (e :: l) = some r) (ha : VR μ acc acc') (hs : VR μ sep sep') : (∃ s, acc' = .string s) ∧ ∃ s, sep' = .string s := by
  unfold joinR at h
  split at h
  case h_2 => cases h
  case h_1 a hq =>
  unfold catS at hq
  split at hq
  · cases ha; cases hs; exact ⟨⟨_, rfl⟩, ⟨_, rfl⟩⟩
  · obtain ⟨o1, o2, _⟩ := symLook_mem hq
    obtain ⟨s', t', r', q1, q2, q3, q4⟩ := Y _ _ _ _ hq
    exact ⟨⟨_, ha.one o1 q1⟩, ⟨_, hs.one o2 q2⟩⟩

theorem sep_of {E : Env} {μ : Mu} (Y : SymOk E μ) {sep acc e r : Value} {l : List Value} {sep' : Value} (h : joinR E sep acc (e :: l) = some r) (hs : VR μ sep sep') : ∃ s, sep' = .string s := by
  unfold joinR at h
  split at h
  case h_2 => cases h
  case h_1 a hq =>
  unfold catS at hq
  split at hq
  · cases hs; exact ⟨_, rfl⟩
  · obtain ⟨o1, o2, _⟩ := symLook_mem hq
    obtain ⟨s', t', r', q1, q2, q3, q4⟩ := Y _ _ _ _ hq
    exact ⟨_, hs.one o2 q2⟩

theorem join_fits {P : Program} {E : Env} {G : GS} {f : FuncId} {ρ : Shelf.Ren} (hf : FnIs P f) (L : Lays.n156 P ρ) (X : Builder.Extra P ρ) (hρ : ρ.f 156 = f) (Y : SymOk E G.m0) : PrimFits P E G f .join := by
  refine ⟨hf, fun args H v H' h B W0 μ w args' hr g hl => ?_⟩
  unfold primA at h
  simp only [] at h
  obtain ⟨r, h1, h2⟩ := Option.map_eq_some_iff.1 h
  cases h2
  have Y' := Y.mono g.2.2
  unfold joinSA at h1
  split at h1
  case h_2 => cases h1
  case h_1 v0 o sp0 l c sep =>
  split at h1
  case h_2 => cases h1
  case h_1 e e2 rest hble hcs =>
  split at h1
  case h_2 => cases h1
  case h_1 a hj =>
  split at h1
  case h_2 => cases h1
  case h_1 k n hn =>
  split at h1
  case isFalse => cases h1
  case isTrue hlt =>
  cases h1
  simp only [Bool.and_eq_true, Nat.ble_eq] at hble
  obtain ⟨x', y', rfl, hx, hy⟩ := args_two hl
  obtain ⟨sp, hsp⟩ := sep_of Y' hj hy
  subst hsp
  have key : ∀ (p : Pl) (c' : Nat), μ.pl v0 = some p → l ≤ c' → Calls P f #[.slice (some ⟨p.blk, p.off + o, none⟩) l c', .string sp] w fun e w' => ∃ μ' v', e = .returned v' ∧ μ.le μ' ∧ HR B W0 μ' H w' ∧ VR μ' (.chan a) v' := by
    intro p c' hp hlc
    obtain ⟨cs', hlen, hvl, hcell⟩ := hr.rd hcs hp
    obtain ⟨e', l2, rfl, he, hv2⟩ := hvl.cons_inv
    obtain ⟨⟨s, rfl⟩, _⟩ := head_of Y' hj he hy
    obtain ⟨xs, rfl⟩ := strings_of Y' ⟨sp, hy⟩ hj he hv2
    have hres := joinR_ok Y' hy hj he hv2
    have hn' := Y' _ _ _ _ hn
    obtain ⟨q, q1, q2⟩ := hn'
    have e3 := hres.one (symLook_mem hn).1 q1
    injection e3 with e3
    have e4 : q.size < 1099511627776 := by
      generalize hz : Value.int .i64 (q.size : Int) = z at q2
      cases q2
      injection hz with _ hz
      omega
    have hjn : Lib.join ((s :: xs).map (·.data.toList)) sp.data.toList = s.data.toList ++ Lib.joinTail sp.data.toList (xs.map (·.data.toList)) := by
      rw [List.map_cons, Lib.join_cons]
    have hll : (s :: xs).length = l := by
      have h1 := hvl.1
      simp only [List.length_cons, List.length_map] at h1 hlen ⊢
      omega
    subst hρ
    have hlt2 : p.blk < w.heap.size := by
      have hcs2 := hcs
      simp only [rdCells, Option.bind_eq_bind, Option.bind_eq_some_iff] at hcs2
      obtain ⟨r, hrow, _⟩ := hcs2
      obtain ⟨q, c, e, fr, a1, b1, _⟩ := hr.row hrow
      rw [a1] at hp; cases hp
      exact (Array.getElem?_eq_some_iff.1 b1).1
    have C := Any.strings_Join L X p.blk (p.off + o) c' (s :: xs) sp w (fun j x hx => by
      have := hcell j (.string x) (by
        have : (Value.string s :: xs.map Value.string) = (s :: xs).map Value.string := rfl
        rw [this, List.getElem?_map, hx]; rfl)
      rw [Addr.add_none] at this; exact this) hlt2 (by omega) (by omega) (by
        rw [hjn]
        have : q.size = (s.data.toList ++ Lib.joinTail sp.data.toList (xs.map (·.data.toList))).length := by rw [← e3]; exact List.size_toArray
        omega)
    rw [hll, hjn] at C
    refine C.mono ?_
    rintro e w' ⟨rfl, hb⟩
    exact ⟨μ, _, rfl, μ.le_refl, hr.stays hb, hres⟩
  cases hx with
  | slc _ _ _ _ p hp => exact key p _ hp hble.1
  | slo _ _ _ _ p hp => exact key p _ hp (by omega)
  | slcE _ _ q p hp =>
    simp only [rdCells, Option.bind_eq_bind, Option.bind_eq_some_iff] at hcs
    obtain ⟨r, _, hcs⟩ := hcs
    split at hcs
    · simp at hcs
    · cases hcs
  | sloE _ _ q p hp =>
    simp only [rdCells, Option.bind_eq_bind, Option.bind_eq_some_iff] at hcs
    obtain ⟨r, _, hcs⟩ := hcs
    split at hcs
    · simp at hcs
    · cases hcs

/-- A table of numbers that the row tells whole. -/
theorem tabIs_of_reads {P : Program} {W : World} {n : String} {g m : Nat} {t e : TypeId} {k : IntKind} {zs : List Int} (hg : P.globalNamed n = some g) (ht : (P.globals[g]?).map (·.type) = some t) (hu : P.underlying t = some (.array m e)) (he : P.underlying e = some (.int k)) (hc : P.cellsOf e = 1) (hct : P.cellsOf t = m)
    (h : Lib.VarReads P W n (Lib.tabData k zs)) : Lib.TabIs P W n k zs := by
  obtain ⟨g', t', cs, fuel, p, h1, h2, h3, h4⟩ := h
  obtain rfl := Option.some.inj (hg.symm.trans h1)
  obtain rfl := Option.some.inj (ht.symm.trans h2)
  unfold Lib.TabIs
  rw [h3, ← Lib.cells_of_tab hu he hc hct h4]
end Go.Vsx
