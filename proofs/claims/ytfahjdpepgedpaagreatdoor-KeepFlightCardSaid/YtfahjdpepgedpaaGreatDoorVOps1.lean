/- The operations are right, 1: what reads types and memory. -/
import Derived.Test.YtfahjdpepgedpaaGreatDoorVRel
set_option linter.all false
namespace Go.Vsx
open Go Go.RowKit

/-- A value without an address. -/
inductive Plain : Value → Prop where
  | mk (v : Value) (h : ∀ μ, VR μ v v) : Plain v

structure TyOk (P : Program) (E : Env) : Prop where
  tt : ∀ t i, E.tt.get t = some i → ∃ info, P.info? t = some info ∧ P.underlying t = some i.d ∧ info.size = i.size ∧ info.bytes = i.bytes ∧ info.zero = i.zero ∧ info.comparable = i.comp
  sth : ∀ t i, E.tt.get t = some i → P.stoodInHeld t = i.sth
  egt : ∀ t i, E.tt.get t = some i → P.eqGuardType P.depth t = i.egt
  zero : ∀ t i z, E.tt.get t = some i → i.zero = some z → (∀ μ, VR μ z z) ∧ z.cells.size = i.size ∧ ∀ x ∈ z.cells.toList, x.oneCell' = true

/-- A run that reads alone. -/
def RdOk (P : Program) (μ : Mu) (w : World) (s : Sem Value) (v : Value) : Prop := ∃ v', s.run P w = .ok v' w ∧ VR μ v v'
/-- A run that may change the heap. -/
def SOk (P : Program) (B : Nat) (W0 : World) (μ : Mu) (w : World) (s : Sem Value) (v : Value) (H' : Heap) : Prop :=
  ∃ v' w' μ', s.run P w = .ok v' w' ∧ μ.le μ' ∧ HR B W0 μ' H' w' ∧ VR μ' v v'

theorem RdOk.sok {P : Program} {B : Nat} {W0 w : World} {μ : Mu} {H : Heap} {s : Sem Value} {v : Value} (h : RdOk P μ w s v) (hr : HR B W0 μ H w) : SOk P B W0 μ w s v H :=
  let ⟨v', a, b⟩ := h; ⟨v', w, μ, a, μ.le_refl, hr, b⟩

section
variable {P : Program} {E : Env} (T : TyOk P E)
include T
theorem TyOk.und {t : TypeId} {d : TypeDesc} (h : tyD E t = some d) : P.underlying t = some d := by
  simp only [tyD, Option.map_eq_some_iff] at h
  obtain ⟨i, a, b⟩ := h
  obtain ⟨_, _, c, _⟩ := T.tt t i a
  rw [c, b]
theorem TyOk.run_und {t : TypeId} {d : TypeDesc} (h : tyD E t = some d) (w : World) : (underlying t).run P w = .ok d w := run_underlying (T.und h) w
theorem TyOk.und' {t : TypeId} {i : TI} (h : E.tt.get t = some i) : P.underlying t = some i.d := T.und (by simp [tyD, h])
theorem TyOk.run_und' {t : TypeId} {i : TI} (h : E.tt.get t = some i) (w : World) : (underlying t).run P w = .ok i.d w := run_underlying (T.und' h) w
theorem TyOk.info {t : TypeId} {i : TI} (h : E.tt.get t = some i) (w : World) : ∃ info, (typeInfo t).run P w = .ok info w ∧ info.size = i.size ∧ info.bytes = i.bytes ∧ info.zero = i.zero ∧ info.comparable = i.comp := by
  obtain ⟨info, a, _, c, d, e, f⟩ := T.tt t i h
  exact ⟨info, by simp [typeInfo, a], c, d, e, f⟩
theorem TyOk.run_size' {t : TypeId} {i : TI} (h : E.tt.get t = some i) (w : World) : (sizeOf t).run P w = .ok i.size w := by
  obtain ⟨info, a, b, _⟩ := T.info h w
  simp [sizeOf, a, b]
theorem TyOk.run_size {t : TypeId} {s : Nat} (h : tySize E t = some s) (w : World) : (sizeOf t).run P w = .ok s w := by
  simp only [tySize, Option.map_eq_some_iff] at h
  obtain ⟨i, a, b⟩ := h
  rw [T.run_size' a, b]
theorem TyOk.run_zero' {t : TypeId} {i : TI} {z : Value} (h : E.tt.get t = some i) (hz : i.zero = some z) (w : World) : (zeroValue t).run P w = .ok z w := by
  obtain ⟨info, a, _, _, b, _⟩ := T.info h w
  simp [zeroValue, a, b, hz]
theorem TyOk.run_zero {t : TypeId} {z : Value} (h : tyZero E t = some z) (w : World) : (zeroValue t).run P w = .ok z w := by
  simp only [tyZero, Option.bind_eq_some_iff] at h
  obtain ⟨i, a, b⟩ := h
  exact T.run_zero' a b w
theorem TyOk.zeroVR {t : TypeId} {z : Value} (h : tyZero E t = some z) (μ : Mu) : VR μ z z := by
  simp only [tyZero, Option.bind_eq_some_iff] at h
  obtain ⟨i, a, b⟩ := h
  exact (T.zero t i z a b).1 μ
theorem TyOk.run_agg {t : TypeId} {i : TI} (h : E.tt.get t = some i) (w : World) : (isAgg t).run P w = .ok (aggD i.d) w := by
  simp only [isAgg, Sem.run_bind, T.run_und' h, Result.andThen_ok]
  cases i.d <;> rfl
end

theorem VR.self_cells {v : Value} (h : ∀ μ, VR μ v v) (μ : Mu) : VL μ v.cells.toList v.cells.toList := by
  cases v with
  | chan r =>
    cases r with
    | none => exact VL.cons (.any _) VL.nil
    | some r =>
      have := h ⟨fun _ => none, fun _ => none, fun _ => none⟩
      cases this with
      | atom _ _ hx => cases hx
  | _ => exact (h μ).cells (by intro i hi; cases hi)

theorem VR.cells_size {μ : Mu} {v v' : Value} (h : VR μ v v') (hat : ∀ k x, μ.at_ k = some x → x.oneCell' = true) (hk : known v = true) : VL μ v.cells.toList v'.cells.toList := by
  cases h with
  | atom k _ hx =>
    have h1 := hat k v' hx
    have : v'.cells = #[v'] := by cases v' <;> first | rfl | (simp [Value.oneCell'] at h1)
    rw [this]
    exact VL.cons (.atom k v' hx) VL.nil
  | any x => cases hk
  | _ => refine VR.cells (by first | constructor <;> assumption | constructor) ?_ <;> (intro i hi; cases hi)

theorem rowOk_exact {μ : Mu} {cs cs' : List Value} (h : VL μ cs cs') (elem : TypeId) (s b ex : Nat) : RowOk μ ⟨cs, cs.length, elem, s, false, false, false⟩ ⟨b, 0, ex⟩ cs'.toArray elem (0, 0) := by
  refine ⟨fun i v hv => ?_, fun _ => ⟨rfl, Nat.le_refl _, ?_, ?_, fun _ => rfl, fun _ => rfl⟩⟩
  · obtain ⟨v', a, b⟩ := h.getElem? hv
    exact ⟨v', by simpa using a, b⟩
  · have := h.1; simp; omega
  · exact .inl rfl

theorem intOf_inv {μ : Mu} {ix ix' : Value} {i : Int} (h : intOfV ix = some i) (hx : VR μ ix ix') : ∃ k, ix' = .int k i := by
  cases ix <;> simp only [intOfV] at h
  all_goals first | (cases h; done) | skip
  cases h; cases hx; exact ⟨_, rfl⟩

section
variable {P : Program} {E : Env} (T : TyOk P E) {B : Nat} {W0 w : World} {μ : Mu} {H H' : Heap}
include T

theorem loadVar_ok (hr : HR B W0 μ H w) {t : TypeId} {a v a' : Value} (h : loadA E H t a = some v) (ha : VR μ a a') : RdOk P μ w (Instr.loadAt t a') v := by
  simp only [loadA, Option.bind_eq_bind, Option.bind_eq_some_iff] at h
  obtain ⟨i, hi, h⟩ := h
  split at h
  case h_2 => cases h
  case h_1 v0 o =>
    cases ha with
    | ptr _ _ p hp =>
    split at h
    case isTrue hagg =>
      simp only [Option.bind_eq_some_iff] at h
      obtain ⟨cs, hcs, h⟩ := h
      cases h
      obtain ⟨cs', hl, hvl, hcell⟩ := hr.rd hcs hp
      have e := run_loadCells_list (P := P) w (Addr.mk p.blk (p.off + o) none) cs' hcell
      have e2 : cs'.length = i.size := by rw [← hvl.1, hl]
      rw [e2] at e
      refine ⟨.agg cs'.toArray, ?_, .agg _ _ (hvl.toArray).1 (hvl.toArray).2⟩
      simp [Instr.loadAt, Instr.sureAddr, loadVar, T.run_agg hi, hagg, T.run_size' hi, e]
    case isFalse hagg =>
      simp only [Option.bind_eq_some_iff] at h
      obtain ⟨r, hrow, h⟩ := h
      obtain ⟨q, c, e, fr, x, y, k, _⟩ := hr.row hrow
      rw [x] at hp; cases hp
      obtain ⟨v', z1, z2⟩ := k o v h
      refine ⟨v', ?_, z2⟩
      have hc : w.cell? ⟨p.blk, p.off + o, none⟩ = some v' := by rw [cell?_of_block y]; exact z1
      have hagg' : aggD i.d = false := by simpa using hagg
      simp [Instr.loadAt, Instr.sureAddr, loadVar, T.run_agg hi, hagg', hc]

theorem storeVar_ok (hr : HR B W0 μ H w) {t : TypeId} {a x a' x' : Value} (h : storeA E H t a x = some H') (ha : VR μ a a') (hx : VR μ x x') :
    ∃ w', (Instr.storeAt t a' x').run P w = .ok () w' ∧ HR B W0 μ H' w' := by
  simp only [storeA, Option.bind_eq_bind, Option.bind_eq_some_iff] at h
  obtain ⟨i, hi, h⟩ := h
  split at h
  case h_2 => cases h
  case h_1 v0 o =>
    cases ha with
    | ptr _ _ p hp =>
    split at h
    case isFalse => cases h
    case isTrue hsz =>
      rw [Bool.and_eq_true] at hsz
      have hszn := Nat.eq_of_beq_eq_true hsz.2
      have hvl := VR.cells_size hx hr.atoms hsz.1
      obtain ⟨w', e1, e2⟩ := hr.wr P h hp hvl
      refine ⟨w', ?_, e2⟩
      have : x'.cells.size = i.size := by have := hvl.1; simp at this; omega
      simp [Instr.storeAt, Instr.sureAddr, storeVar, T.run_size' hi, this, e1]

omit T in
theorem newRow_ok (hr : HR B W0 μ H w) {e : TypeId} {cs cs' : List Value} {v : Value} (h : newRowA E H e cs = some (v, H')) (hc : VL μ cs cs') :
    ∃ a w' μ', (newRow e cs'.toArray).run P w = .ok a w' ∧ μ.le μ' ∧ HR B W0 μ' H' w' ∧ VR μ' v (.pointer (some a)) := by
  simp only [newRowA, Option.bind_eq_bind, Option.bind_eq_some_iff] at h
  obtain ⟨s, hs, h⟩ := h
  cases h
  have hle : μ.le (μ.ext H.next ⟨w.heap.size, 0, 0⟩) := Mu.le_ext (hr.fresh _ (Nat.le_refl _))
  refine ⟨⟨w.heap.size, 0, none⟩, { w with heap := w.heap.push (.cells cs'.toArray e) }, μ.ext H.next ⟨w.heap.size, 0, 0⟩, by simp [newRow], hle, ?_, ?_⟩
  · refine hr.push _ _ 0 0 rfl ?_
    exact ⟨cs'.toArray, e, (0, 0), by simp, rowOk_exact (hc.mono hle) e s w.heap.size 0⟩
  · have := VR.ptr (μ := μ.ext H.next ⟨w.heap.size, 0, 0⟩) H.next 0 ⟨w.heap.size, 0, 0⟩ (Mu.ext_same ..)
    simpa using this

theorem alloc_run {e : TypeId} {z v : Value} (hz : tyZero E e = some z) (h : newRowA E H e z.cells.toList = some (v, H')) :
    ∃ s, v = .pointer (some ⟨H.next, 0, none⟩) ∧ H' = H.add (.row ⟨z.cells.toList, z.cells.toList.length, e, s, false, false, false⟩) ∧
      ∀ w, (Instr.alloc e true (.tuple #[])).run P w = .ok (.pointer (some ⟨w.heap.size, 0, none⟩)) { w with heap := w.heap.push (.cells z.cells.toList.toArray e) } := by
  simp only [newRowA, Option.bind_eq_bind, Option.bind_eq_some_iff] at h
  obtain ⟨s, hs, h⟩ := h
  cases h
  exact ⟨s, rfl, rfl, fun w => by simp [Instr.alloc, newVar, T.run_zero hz, newRow]⟩

theorem alloc_ok (hr : HR B W0 μ H w) {e : TypeId} {z v : Value} (hz : tyZero E e = some z) (h : newRowA E H e z.cells.toList = some (v, H')) :
    SOk P B W0 μ w (Instr.alloc e true (.tuple #[])) v H' := by
  obtain ⟨a, w', μ', x, y, k, l⟩ := newRow_ok (P := P) hr h (VR.self_cells (T.zeroVR hz) μ)
  refine ⟨_, w', μ', ?_, y, k, l⟩
  simp only [Array.toArray_toList] at x
  simp [Instr.alloc, T.run_zero hz, newVar, x]

omit T in
theorem box_ok (hr : HR B W0 μ H w) {e : TypeId} {x x' v : Value} (hk : known x = true) (h : newRowA E H e x.cells.toList = some (v, H')) (hx : VR μ x x') :
    SOk P B W0 μ w (Instr.box e x') v H' := by
  obtain ⟨a, w', μ', y, z, k, l⟩ := newRow_ok (P := P) hr h (VR.cells_size hx hr.atoms hk)
  refine ⟨_, w', μ', ?_, z, k, l⟩
  simp only [Array.toArray_toList] at y
  simp [Instr.box, newVar, y]

/-! fields and indexes -/
theorem field_info {t : TypeId} {f off : Nat} {i : TI} (h : fieldOf E t f = some (off, i)) : ∃ fs fd, P.underlying t = some (.struct fs) ∧ fs[f]? = some fd ∧ fd.offset = off ∧ E.tt.get fd.type = some i := by
  simp only [fieldOf, Option.bind_eq_bind, Option.bind_eq_some_iff] at h
  obtain ⟨d, hd, h⟩ := h
  split at h
  case h_2 => cases h
  case h_1 fs =>
    simp only [Option.bind_eq_some_iff] at h
    obtain ⟨fd, a, i', b, c⟩ := h
    simp only [Option.some.injEq, Prod.mk.injEq] at c
    obtain ⟨rfl, rfl⟩ := c
    exact ⟨fs, fd, T.und hd, a, rfl, b⟩

theorem fieldAddr_ok {t : TypeId} {x x' v : Value} {f : Nat} (h : fieldAddrA E t x f = some v) (hx : VR μ x x') : RdOk P μ w (Instr.fieldAt t x' f) v := by
  simp only [fieldAddrA, Option.bind_eq_bind, Option.bind_eq_some_iff] at h
  obtain ⟨⟨off, i⟩, hf, h⟩ := h
  split at h
  case isTrue => cases h
  case isFalse hs =>
    obtain ⟨fs, fd, a, b, c, d⟩ := field_info T hf
    split at h
    case h_2 => cases h
    case h_1 v0 o =>
      cases h
      cases hx with
      | ptr _ _ p hp =>
      refine ⟨.pointer (some ⟨p.blk, p.off + (o + off), none⟩), ?_, .ptr _ _ p hp⟩
      simp [Instr.fieldAt, run_underlying a, b, Instr.sureAddr, fieldPlace, T.run_size' d, hs, Addr.add_none, c, Nat.add_assoc]

theorem part_ok {u : TypeId} {i : TI} (hi : E.tt.get u = some i) {cs cs' : Array Value} (hc : VA μ cs cs') {off : Nat} {v : Value} (h : partA i cs off = some v) :
    ∃ v', (part u cs' off).run P w = .ok v' w ∧ VR μ v v' := by
  unfold partA at h
  split at h
  case isTrue hagg =>
    cases h
    refine ⟨.agg (cs'.extract off (off + i.size)), by simp [part, T.run_agg hi, hagg, T.run_size' hi], ?_⟩
    have e := hc.1
    refine .agg _ _ (by simp [e]) ?_
    intro j x x' hx hx'
    rw [Array.getElem?_extract] at hx hx'
    rw [← e] at hx'
    split at hx
    · rename_i hj
      rw [if_pos hj] at hx'
      exact hc.2 _ x x' hx hx'
    · cases hx
  case isFalse hagg =>
    obtain ⟨v', a, b⟩ := (hc.toList).getElem? (i := off) (v := v) (by simpa using h)
    have a' : cs'[off]? = some v' := by simpa using a
    have hagg' : aggD i.d = false := by simpa using hagg
    exact ⟨v', by simp [part, T.run_agg hi, hagg', a'], b⟩

theorem field_ok {t : TypeId} {x x' v : Value} {f : Nat} (h : fieldA E t x f = some v) (hx : VR μ x x') : RdOk P μ w (Instr.field t x' f) v := by
  simp only [fieldA, Option.bind_eq_bind, Option.bind_eq_some_iff] at h
  obtain ⟨⟨off, i⟩, hf, h⟩ := h
  obtain ⟨fs, fd, a, b, c, d⟩ := field_info T hf
  split at h
  case h_2 => cases h
  case h_1 cs =>
    cases hx with
    | agg _ cs' hs hcs =>
    obtain ⟨v', y, z⟩ := part_ok T (w := w) d ⟨hs, hcs⟩ h
    exact ⟨v', by simp [Instr.field, run_underlying a, b, asAgg, c, y], z⟩

theorem indexAddr_ok {t : TypeId} {x x' ix ix' v : Value} (h : indexAddrA E t x ix = some v) (hx : VR μ x x') (hi : VR μ ix ix') : RdOk P μ w (Instr.indexAt t x' ix') v := by
  simp only [indexAddrA, Option.bind_eq_bind, Option.bind_eq_some_iff] at h
  obtain ⟨i, h1, d, hd, h⟩ := h
  obtain ⟨k, rfl⟩ := intOf_inv h1 hi
  split at h
  · rename_i n e v0 o
    simp only [Option.bind_eq_some_iff] at h
    obtain ⟨s, hs, h⟩ := h
    split at h
    case isFalse => cases h
    case isTrue hb =>
      cases h
      cases hx with
      | ptr _ _ p hp =>
      refine ⟨.pointer (some ⟨p.blk, p.off + (o + i.toNat * s), none⟩), ?_, .ptr _ _ p hp⟩
      simp [Instr.indexAt, asIntOf, T.run_und hd, Instr.sureAddr, hb, T.run_size hs, Addr.add_none, Nat.add_assoc]
  · rename_i e v0 o sp len cap
    simp only [Option.bind_eq_some_iff] at h
    obtain ⟨s, hs, h⟩ := h
    split at h
    case isFalse => cases h
    case isTrue hb =>
      cases h
      cases hx with
      | slc _ _ _ _ p hp =>
        refine ⟨.pointer (some ⟨p.blk, p.off + (o + i.toNat * s), none⟩), ?_, .ptr _ _ p hp⟩
        simp [Instr.indexAt, asIntOf, T.run_und hd, hb, T.run_size hs, Addr.add_none, Nat.add_assoc]
      | slo _ _ _ _ p hp =>
        refine ⟨.pointer (some ⟨p.blk, p.off + (o + i.toNat * s), none⟩), ?_, .ptr _ _ p hp⟩
        simp [Instr.indexAt, asIntOf, T.run_und hd, hb, T.run_size hs, Addr.add_none, Nat.add_assoc]
      | slcE => omega
      | sloE => omega
  · cases h

theorem index_ok {t : TypeId} {x x' ix ix' v : Value} (h : indexA E t x ix = some v) (hx : VR μ x x') (hi : VR μ ix ix') : RdOk P μ w (Instr.index t x' ix') v := by
  simp only [indexA, Option.bind_eq_bind, Option.bind_eq_some_iff] at h
  obtain ⟨i, h1, d, hd, h⟩ := h
  obtain ⟨k, rfl⟩ := intOf_inv h1 hi
  split at h
  · rename_i n e cs
    simp only [Option.bind_eq_some_iff] at h
    obtain ⟨ti, hti, h⟩ := h
    split at h
    case isFalse => cases h
    case isTrue hb =>
      cases hx with
      | agg _ cs' hs hcs =>
      obtain ⟨v', y, z⟩ := part_ok T (w := w) hti ⟨hs, hcs⟩ h
      refine ⟨v', ?_, z⟩
      simp [Instr.index, asIntOf, T.run_und hd, hb, T.run_size' hti, y]
  · rename_i s
    split at h
    case isFalse => cases h
    case isTrue hb =>
      simp only [Option.map_eq_some_iff] at h
      obtain ⟨b, hbb, rfl⟩ := h
      cases hx
      refine ⟨.int .u8 b.toNat, ?_, .int _ _⟩
      simp [Instr.index, asIntOf, T.run_und hd, hb, hbb]
  · cases h
end
end Go.Vsx
