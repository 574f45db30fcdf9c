/- The operations are right, 3: conversions, slices. -/
import Derived.Test.YtfahjdpepgedpaaGreatDoorVOps2
import Derived.Laws.BytesString
import Derived.Lib.UnsafeStr
set_option linter.all false
namespace Go.Vsx
open Go Go.RowKit

theorem run_appendCap (P : Program) (need old : Nat) (e : TypeId) (w : World) : ∃ k, (choose (.appendCap need old e)).run P w = .ok (need + k) { w with drawn := w.drawn + 1 } :=
  ⟨_, by simp [Question.forced, Question.cut]; rfl⟩

theorem bytesOfCells_eq : ∀ {cs : List Value} {bs : List UInt8}, bytesOfCells cs = some bs → cs = bs.map fun b => Value.int .u8 b.toNat
  | [], bs, h => by simp [bytesOfCells] at h; subst h; rfl
  | c :: r, bs, h => by
    unfold bytesOfCells at h
    split at h
    · rename_i e; cases e
    · rename_i n r' e
      cases e
      split at h
      case isFalse => cases h
      case isTrue hn =>
        simp only [Option.map_eq_some_iff] at h
        obtain ⟨bs', h1, rfl⟩ := h
        rw [bytesOfCells_eq h1]
        simp only [List.map_cons, List.cons.injEq, and_true, Value.int.injEq, true_and]
        have : (UInt8.ofNat n.toNat).toNat = n.toNat := by
          rw [UInt8.toNat_ofNat']; omega
        rw [this]; omega
    · cases h

theorem foldl_push_bytes : ∀ (bs : List UInt8) (acc : ByteArray), (bs.map fun b => (b.toNat : Int)).foldl (fun r n => r.push (UInt8.ofNat n.toNat)) acc = ⟨acc.data ++ bs.toArray⟩
  | [], acc => by simp
  | b :: bs, acc => by
    simp only [List.map_cons, List.foldl_cons]
    rw [foldl_push_bytes bs]
    apply ByteArray.ext
    simp [ByteArray.push]

theorem VL.bytes {μ : Mu} {bs : List UInt8} {cs' : List Value} (h : VL μ (bs.map fun b => Value.int .u8 b.toNat) cs') : cs' = bs.map fun b => Value.int .u8 b.toNat := by
  apply List.ext_getElem?
  intro i
  have hl := h.1
  by_cases hi : i < bs.length
  · obtain ⟨v', a, b⟩ := h.getElem? (i := i) (v := .int .u8 (bs[i]).toNat) (by simp [hi])
    cases b
    rw [a]; simp [hi]
  · simp at hl
    rw [List.getElem?_eq_none (by omega), List.getElem?_eq_none (by simp; omega)]

section
variable {P : Program} {E : Env} (T : TyOk P E) {B : Nat} {W0 w : World} {μ : Mu} {H H' : Heap}
include T

omit T in
/-- A row with room, made by a draw. -/
theorem HR.pushOpen (h : HR B W0 μ H w) (r : Row) (c : Array Value) (fr : Nat × Nat) (ex : Nat) (hro : r.ro = false) (hop : r.opn = true)
    (hcs : ∀ (i : Nat) v, r.cs[i]? = some v → ∃ v', c[i]? = some v' ∧ VR μ v v') (hlb : r.cs.length ≤ r.lb) (hsz : r.lb + ex * r.esz ≤ c.size)
    (hfr : fr = (0, 0) ∨ c.size ≤ fr.1) (hfz : r.fz = false → fr = (0, 0)) :
    HR B W0 (μ.ext H.next ⟨w.heap.size, 0, ex⟩) (H.add (.row r)) { w with heap := w.heap.push (.cells c r.elem fr) } := by
  have hle : μ.le (μ.ext H.next ⟨w.heap.size, 0, ex⟩) := Mu.le_ext (h.fresh _ (Nat.le_refl _))
  refine h.push (.row r) _ 0 ex (by simp [AObj.own, hro]) ⟨c, r.elem, fr, by simp, ?_, fun _ => ⟨rfl, hlb, ?_, hfr, hfz, fun k => absurd (hop.symm.trans k) (by decide)⟩⟩
  · intro i v hv
    obtain ⟨v', a, b⟩ := hcs i v hv
    exact ⟨v', by simpa using a, b.mono hle⟩
  · simp only [hop, if_true]; omega

omit T in
theorem freeze_row {b o n : Nat} {sp : Option Nat} {c : Array Value} {e : TypeId} {fr : Nat × Nat} (hn : n ≠ 0) (h : w.heap[b]? = some (.cells c e fr)) :
    w.freeze ⟨b, o, sp⟩ n = setRow w b c e (if fr.1 == fr.2 then (o, o + n) else (min fr.1 o, max fr.2 (o + n))) := by
  unfold World.freeze
  rw [if_neg hn]
  simp only [setRow]
  congr 1
  apply Array.ext_getElem?
  intro i
  rw [Array.getElem?_modify, Array.getElem?_setIfInBounds]
  obtain ⟨hb, hx⟩ := Array.getElem?_eq_some_iff.1 h
  by_cases h1 : b = i
  · subst h1; simp [hb, hx]
  · simp [h1]

omit T in
theorem markStringish_run (hr : HR B W0 μ H w) {v q : Nat} {sp : Option Nat} {r : Row} {p : Pl} (hrow : H.row v = some r) (hro : r.ro = false) (hp : μ.pl v = some p) :
    ∃ w', (markStringish ⟨p.blk, q, sp⟩).run P w = .ok () w' ∧ HR B W0 μ (H.put v (.row { r with fz := true })) w' := by
  obtain ⟨p', c, e, fr, a, b, k, k2⟩ := hr.row hrow
  rw [a] at hp; cases hp
  obtain ⟨he, hcl, hsz, hfr, hfz, hhd⟩ := k2 hro
  obtain ⟨hb, hx⟩ := Array.getElem?_eq_some_iff.1 b
  refine ⟨setRow w p.blk c e (if fr.1 == fr.2 then (c.size, c.size + 1) else (min fr.1 c.size, max fr.2 (c.size + 1))), ?_, ?_⟩
  · simp only [markStringish, Sem.run_bind, run_shape, World.shape?, b, Result.andThen_ok]
    rw [run_freeze, freeze_row (by decide) b]
  · refine hr.upd (Heap.row_eq hrow) a (by simp [AObj.own, hro]) (by simp [AObj.own, hro]) ⟨rfl, rfl, rfl, setRow_size ..⟩ ?_ ?_
    · intro j hj; rw [setRow_heap, if_neg (by omega)]
    · refine ⟨c, e, _, by rw [setRow_heap, if_pos ⟨rfl, hb⟩], k, fun _ => ⟨he, hcl, hsz, .inr ?_, (fun h => by cases h), hhd⟩⟩
      split
      · exact Nat.le_refl _
      · rename_i hne
        rcases hfr with rfl | hfr
        · simp at hne
        · simp only; omega

omit T in
theorem pushStr_ok (hr : HR B W0 μ H w) {e : TypeId} (s : ByteArray) :
    ∃ v' w' μ', (Conv.stringToBytes e s).run P w = .ok v' w' ∧ μ.le μ' ∧ HR B W0 μ' (H.add (.row ⟨byteCells s, s.size, e, 1, false, true, true⟩)) w' ∧ VR μ' (.slice (some ⟨H.next, 0, some 1⟩) s.size s.size) v' := by
  obtain ⟨k, hk⟩ := run_appendCap P s.size 0 e w
  have hr1 := hr.drawn (w.drawn + 1)
  have hs : (byteCells s).length = s.size := by simp [byteCells]
  have hle : μ.le (μ.ext H.next ⟨w.heap.size, 0, k⟩) := Mu.le_ext (hr.fresh _ (Nat.le_refl _))
  generalize hw1 : ({ w with drawn := w.drawn + 1 } : World) = w1 at hk hr1
  have hsz1 : w1.heap.size = w.heap.size := by rw [← hw1]
  let c : Array Value := (s.data.map fun b => Value.int .u8 b.toNat) ++ Array.replicate k (Value.int .u8 0)
  have hcsz : c.size = s.size + k := by simp [c]
  have hr2 := hr1.pushOpen ⟨byteCells s, s.size, e, 1, false, true, false⟩ c (0, 0) k rfl rfl (by
      intro i v hv
      have hv' := hv
      simp only [byteCells, List.getElem?_map, Option.map_eq_some_iff] at hv
      obtain ⟨b, hb, rfl⟩ := hv
      have hi : i < s.data.size := by
        have := (List.getElem?_eq_some_iff.1 hb).1
        simpa using this
      refine ⟨_, ?_, .int _ _⟩
      simp only [c]
      rw [Array.getElem?_append_left (by simpa using hi)]
      simp only [Array.getElem?_map]
      rw [← Array.getElem?_toList, hb]; rfl) (by simp [hs]) (by simp only [hcsz]; omega) (.inl rfl) (fun _ => rfl)
  rw [hsz1] at hr2
  have hrow : (H.add (.row ⟨byteCells s, s.size, e, 1, false, true, false⟩)).row H.next = some ⟨byteCells s, s.size, e, 1, false, true, false⟩ := by
    simp [Heap.row, Heap.get_add]
  obtain ⟨w2, h3, h4⟩ := markStringish_run (P := P) (q := 0) (sp := none) hr2 hrow rfl (Mu.ext_same ..)
  refine ⟨.slice (some ⟨w.heap.size, 0, none⟩) s.size (s.size + k), w2, _, ?_, hle, ?_, ?_⟩
  · have hcap : s.size + k - s.size = k := by omega
    simp only [Conv.stringToBytes, Sem.run_bind, hk, Result.andThen_ok, newRow, run_newObj, Sem.run_pure, hcap, hsz1]
    have h3' := h3
    simp only [c] at h3'
    rw [h3']
    rfl
  · exact h4.congr (by intro v; simp only [Heap.get_put, Heap.get_add]; split <;> rfl) rfl
  · have := VR.slo (μ := μ.ext H.next ⟨w.heap.size, 0, k⟩) H.next 0 s.size s.size ⟨w.heap.size, 0, k⟩ (Mu.ext_same ..)
    simpa using this

theorem conv_ok (Y : SymOk E μ) (hr : HR B W0 μ H w) {src dst : TypeId} {x x' v : Value} (h : convA E H src dst x = some (v, H')) (hx : VR μ x x') :
    SOk P B W0 μ w (convert src dst x') v H' := by
  simp only [convA, Option.bind_eq_bind, Option.bind_eq_some_iff] at h
  obtain ⟨sd, hs, dd, hd, h⟩ := h
  have us := T.run_und hs
  have ud := T.run_und hd
  split at h
  · cases h; cases hx
    exact ⟨_, w, μ, by simp only [convert, Sem.run_bind, us, ud, Result.andThen_ok]; rfl, μ.le_refl, hr, .int _ _⟩
  · cases h; cases hx
    exact ⟨_, w, μ, by simp only [convert, Sem.run_bind, us, ud, Result.andThen_ok]; rfl, μ.le_refl, hr, .str _⟩
  · rename_i e s
    simp only [Option.bind_eq_some_iff] at h
    obtain ⟨ed, he, h⟩ := h
    split at h
    case h_2 => cases h
    case h_1 =>
      simp only [Option.bind_eq_some_iff] at h
      obtain ⟨sz, hsz, h⟩ := h
      split at h
      case isFalse => cases h
      case isTrue hc =>
        cases h; cases hx
        obtain ⟨v', w', μ', a, b, c, d⟩ := pushStr_ok (P := P) hr (e := e) s
        refine ⟨v', w', μ', ?_, b, c, d⟩
        simp only [convert, Sem.run_bind, us, ud, Result.andThen_ok, T.run_und he]
        exact a
  · rename_i e0 e v0 o sp l c
    simp only [Option.bind_eq_some_iff] at h
    obtain ⟨ed, he, h⟩ := h
    split at h
    case h_2 => cases h
    case h_1 heq =>
      simp only [Option.bind_eq_some_iff] at h
      obtain ⟨r, hrow, h⟩ := h
      split at h
      case isTrue => cases h
      case isFalse hro =>
        have hro' : r.ro = false := by simpa using hro
        cases h
        have key : ∀ (p : Pl) (q l' c' : Nat), μ.pl v0 = some p → VR μ (.slice (some ⟨v0, o, sp⟩) l c) (.slice (some ⟨p.blk, q, none⟩) l' c') →
            SOk P B W0 μ w (convert src dst (.slice (some ⟨p.blk, q, none⟩) l' c')) (.slice (some ⟨v0, o, sp⟩) l c) (H.put v0 (.row { r with fz := true })) := by
          intro p q l' c' hp hv
          obtain ⟨w', a, b⟩ := markStringish_run (P := P) (q := q) (sp := none) hr hrow hro' hp
          refine ⟨_, w', μ, ?_, μ.le_refl, b, hv⟩
          simp only [convert, Sem.run_bind, us, ud, Result.andThen_ok, T.run_und he, heq]
          simp only [Sem.run_bind, a, Result.andThen_ok]
          rfl
        have hx2 := hx
        cases hx with
        | slc _ _ _ _ p hp => exact key p _ _ _ hp hx2
        | slo _ _ _ _ p hp => exact key p _ _ _ hp hx2
        | slcE _ _ q p hp => exact key p _ _ _ hp hx2
        | sloE _ _ q p hp => exact key p _ _ _ hp hx2
  · rename_i e l c
    simp only [Option.bind_eq_some_iff] at h
    obtain ⟨ed, he, h⟩ := h
    split at h
    case h_2 => cases h
    case h_1 =>
      cases h; cases hx
      refine ⟨_, w, μ, ?_, μ.le_refl, hr, .str _⟩
      simp only [convert, Sem.run_bind, us, ud, Result.andThen_ok, T.run_und he]
      rfl
  · rename_i e v0 o sp l c
    simp only [Option.bind_eq_some_iff] at h
    obtain ⟨ed, he, h⟩ := h
    split at h
    case h_2 => cases h
    case h_1 =>
      simp only [Option.bind_eq_some_iff] at h
      obtain ⟨cs, hcs, h⟩ := h
      split at h
      case h_2 hbs0 =>
        obtain ⟨r, hr2, h⟩ := Option.map_eq_some_iff.1 h
        cases h
        have key : ∀ (p : Pl) (c' : Nat), μ.pl v0 = some p → SOk P B W0 μ w (convert src dst (.slice (some ⟨p.blk, p.off + o, none⟩) l c')) v H := by
          intro p c' hp
          obtain ⟨cs', hl, hvl, hcell⟩ := hr.rd hcs hp
          obtain ⟨bs, e2, hvr⟩ := snocA_ok Y hr2 (l := []) (.str _) hvl
          have e3 := run_loadCells_list (P := P) w (Addr.mk p.blk (p.off + o) none) cs' hcell
          have e4 : cs'.length = l := by rw [← hvl.1, hl]
          rw [e4] at e3
          refine ⟨_, w, μ, ?_, μ.le_refl, hr, hvr⟩
          simp only [convert, Sem.run_bind, us, ud, Result.andThen_ok, T.run_und he]
          have e5 := run_bytesToString (P := P) w (Addr.mk p.blk (p.off + o) none) l c' (bs.map fun b => (b.toNat : Int)) (by rw [e3, e2]; simp)
          rw [e5, foldl_push_bytes]
          simp
        have none0 : cs ≠ [] := by rintro rfl; cases hbs0
        cases hx with
        | slc _ _ _ _ p hp => exact key p _ hp
        | slo _ _ _ _ p hp => exact key p _ hp
        | slcE _ _ q p hp =>
          refine absurd ?_ none0
          simp only [rdCells, Option.bind_eq_bind, Option.bind_eq_some_iff] at hcs
          obtain ⟨r, _, hcs⟩ := hcs
          split at hcs
          · cases hcs; simp
          · cases hcs
        | sloE _ _ q p hp =>
          refine absurd ?_ none0
          simp only [rdCells, Option.bind_eq_bind, Option.bind_eq_some_iff] at hcs
          obtain ⟨r, _, hcs⟩ := hcs
          split at hcs
          · cases hcs; simp
          · cases hcs
      case h_1 bs hbs =>
      cases h
      have key : ∀ (p : Pl) (c' : Nat), μ.pl v0 = some p → SOk P B W0 μ w (convert src dst (.slice (some ⟨p.blk, p.off + o, none⟩) l c')) (.string ⟨bs.toArray⟩) H := by
        intro p c' hp
        obtain ⟨cs', hl, hvl, hcell⟩ := hr.rd hcs hp
        have e1 := bytesOfCells_eq hbs
        rw [e1] at hvl
        have e2 := hvl.bytes
        have e3 := run_loadCells_list (P := P) w (Addr.mk p.blk (p.off + o) none) cs' hcell
        have e4 : cs'.length = l := by rw [← hvl.1, ← e1, hl]
        rw [e4] at e3
        refine ⟨_, w, μ, ?_, μ.le_refl, hr, .str _⟩
        simp only [convert, Sem.run_bind, us, ud, Result.andThen_ok, T.run_und he]
        have e5 := run_bytesToString (P := P) w (Addr.mk p.blk (p.off + o) none) l c' (bs.map fun b => (b.toNat : Int)) (by rw [e3, e2]; simp)
        rw [e5, foldl_push_bytes]
        simp
      cases hx with
      | slc _ _ _ _ p hp => exact key p _ hp
      | slo _ _ _ _ p hp => exact key p _ hp
      | slcE _ _ q p hp =>
        have hcs0 : cs = [] := by
          simp only [rdCells, Option.bind_eq_bind, Option.bind_eq_some_iff] at hcs
          obtain ⟨r, _, hcs⟩ := hcs
          split at hcs
          · cases hcs; simp
          · cases hcs
        subst hcs0
        simp only [bytesOfCells, Option.some.injEq] at hbs
        subst hbs
        refine ⟨_, w, μ, ?_, μ.le_refl, hr, .str _⟩
        simp only [convert, Sem.run_bind, us, ud, Result.andThen_ok, T.run_und he]
        simp [Conv.bytesToString, loadCells, loadCellsFrom]
        rfl
      | sloE _ _ q p hp =>
        have hcs0 : cs = [] := by
          simp only [rdCells, Option.bind_eq_bind, Option.bind_eq_some_iff] at hcs
          obtain ⟨r, _, hcs⟩ := hcs
          split at hcs
          · cases hcs; simp
          · cases hcs
        subst hcs0
        simp only [bytesOfCells, Option.some.injEq] at hbs
        subst hbs
        refine ⟨_, w, μ, ?_, μ.le_refl, hr, .str _⟩
        simp only [convert, Sem.run_bind, us, ud, Result.andThen_ok, T.run_und he]
        simp [Conv.bytesToString, loadCells, loadCellsFrom]
        rfl
  · rename_i e v0 o
    simp only [Option.bind_eq_some_iff] at h
    obtain ⟨r, hrow, s, hsz, h⟩ := h
    split at h
    case isFalse => cases h
    case isTrue hc =>
      simp only [Bool.and_eq_true, Bool.not_eq_true', Nat.blt_eq] at hc
      obtain ⟨⟨hro, ho⟩, hs0⟩ := hc
      cases h
      have hx2 := hx
      cases hx with
      | ptr _ _ p hp =>
      obtain ⟨p', c, e1, fr, a, b, k, k2⟩ := hr.row hrow
      rw [a] at hp; cases hp
      obtain ⟨_, hcl, hsz2, _⟩ := k2 hro
      refine ⟨_, w, μ, ?_, μ.le_refl, hr, hx2⟩
      have hlt : ¬ (c.size ≤ p.off + o) := by omega
      simp only [convert, Sem.run_bind, us, ud, Result.andThen_ok]
      simp [Conv.unsafePointer, us, ud, Conv.seenAt, viewAt_row b, cellsIn, World.shape?, b, T.run_size hsz, hlt, Nat.ne_of_gt hs0]
  · rename_i e v0 o
    simp only [Option.bind_eq_some_iff] at h
    obtain ⟨r, hrow, s, hsz, h⟩ := h
    split at h
    case isFalse => cases h
    case isTrue hc =>
      simp only [Bool.and_eq_true, Bool.not_eq_true', Nat.blt_eq, beq_iff_eq, Nat.ble_eq] at hc
      obtain ⟨⟨⟨⟨⟨hro, hop⟩, hel⟩, ho⟩, hs0⟩, hs1⟩ := hc
      cases h
      have hx2 := hx
      cases hx with
      | ptr _ _ p hp =>
      obtain ⟨p', c, e1, fr, a, b, k, k2⟩ := hr.row hrow
      rw [a] at hp; cases hp
      obtain ⟨he1, hcl, hsz2, _, _, hhd⟩ := k2 hro
      have hoff := hhd hop
      have ho' := Nat.eq_of_beq_eq_true ho
      subst ho'
      have hce : P.cellsOf e = s := by
        simp only [tySize, Option.map_eq_some_iff] at hsz
        obtain ⟨i, i1, i2⟩ := hsz
        obtain ⟨info, j1, _, j2, _⟩ := T.tt e i i1
        simp [Program.cellsOf, j1, j2, i2]
      have hlies : liesAt P P.depth e (c.size / s) 0 e 1 = true := by
        have hd : P.depth = (2 * (P.types.size + Made.depth) + 1) + 1 := rfl
        rw [hd]
        simp only [liesAt, Bool.or_eq_true]
        left
        rw [hd]
        have : 1 ≤ c.size / s := (Nat.le_div_iff_mul_le hs0).2 (by omega)
        simp [rowAt, hce, Nat.ne_of_gt hs0, sameLayout, this]
      refine ⟨_, w, μ, ?_, μ.le_refl, hr, hx2⟩
      simp only [convert, Sem.run_bind, us, ud, Result.andThen_ok]
      simp [Conv.unsafePointer, us, ud, Conv.seenAt, viewAt_row b, variablesAt, World.shape?, b, T.run_size hsz, Nat.ne_of_gt hs0, hoff, he1, hel, hce, hlies]
  · cases h
end
end Go.Vsx
