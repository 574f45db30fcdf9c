/- How the abstract heap stands to the model's world, and what keeps it so. -/
import Derived.Test.YtfahjdpepgedpaaGreatDoorVExec
set_option linter.all false
namespace Go.Vsx
open Go Go.RowKit

def ME (μ : Mu) (e e' : MapEntry) : Prop := VR μ e.key e'.key ∧ VR μ e.val e'.val ∧ e.born = e'.born

def RowOk (μ : Mu) (r : Row) (p : Pl) (c : Array Value) (e : TypeId) (fr : Nat × Nat) : Prop :=
  (∀ i v, r.cs[i]? = some v → ∃ v', c[p.off + i]? = some v' ∧ VR μ v v') ∧
  (r.ro = false → e = r.elem ∧ r.cs.length ≤ r.lb ∧ p.off + r.lb + (if r.opn = true then p.ex * r.esz else 0) ≤ c.size ∧
    (fr = (0, 0) ∨ c.size ≤ fr.1) ∧ (r.fz = false → fr = (0, 0)) ∧ (r.opn = false → p.off = 0))

theorem cold_of {fr : Nat × Nat} {n : Nat} (h : fr = (0, 0) ∨ n ≤ fr.1) : ∀ i, i < n → ¬ (fr.1 ≤ i ∧ i < fr.2) := by
  rcases h with rfl | h
  · intro i _ hh; simp at hh
  · intro i hi hh; omega

def estrip (e : MapEntry) : Value × Value := (e.key, e.val)
def OR (μ : Mu) (o : AObj) (p : Pl) (w : World) : Prop :=
  match o with
  | .row r => ∃ c e fr, w.heap[p.blk]? = some (.cells c e fr) ∧ RowOk μ r p c e fr
  | .map es clock => ∃ es' : Array MapEntry, w.heap[p.blk]? = some (.map es' clock) ∧ es.length = es'.size ∧ ∀ (i : Nat) e e', es[i]? = some e → es'[i]? = some e' → ME μ e e'
  | .mapIter m since seen st => p.off = 0 ∧ ∃ m', w.heap[p.blk]? = some (.mapIter m' since seen.toArray st) ∧ (match m with | none => m' = none | some v => ∃ q, μ.pl v = some q ∧ m' = some q.blk)
  | .strIter s pos => p.off = 0 ∧ w.heap[p.blk]? = some (.stringIter s pos)
  | .lmap es => ∃ (es1 : List MapEntry) (clock : Nat), (es1.map estrip).Perm (es.map estrip) ∧ ∃ es' : Array MapEntry, w.heap[p.blk]? = some (.map es' clock) ∧ es1.length = es'.size ∧ ∀ (i : Nat) e e', es1[i]? = some e → es'[i]? = some e' → ME μ e e'

def AObj.own : AObj → Bool
  | .row r => !r.ro
  | _ => true

structure HR (B : Nat) (W0 : World) (μ : Mu) (H : Heap) (w : World) : Prop where
  below : Below B W0 w
  base : B ≤ w.heap.size
  fresh : ∀ v, H.next ≤ v → μ.pl v = none
  atoms : ∀ k x, μ.at_ k = some x → x.oneCell' = true
  obj : ∀ v o, H.get v = some o → ∃ p, μ.pl v = some p ∧ OR μ o p w ∧ (o.own = true → B ≤ p.blk) ∧ (o.own = false → p.blk < B)
  inj : ∀ v v' o o' p p', H.get v = some o → H.get v' = some o' → o.own = true → o'.own = true → μ.pl v = some p → μ.pl v' = some p' → p.blk = p'.blk → v = v'
  kept : ∀ b O, μ.kp b = some O → w.heap[b]? = some O
  aprt : ∀ v o p, H.get v = some o → o.own = true → μ.pl v = some p → μ.kp p.blk = none

theorem ME.monoV {μ μ' : Mu} (h : μ.leV μ') {e e' : MapEntry} (k : ME μ e e') : ME μ' e e' := ⟨k.1.monoV h, k.2.1.monoV h, k.2.2⟩
theorem ME.mono {μ μ' : Mu} (h : μ.le μ') {e e' : MapEntry} (k : ME μ e e') : ME μ' e e' := k.monoV h.v
theorem RowOk.monoV {μ μ' : Mu} (h : μ.leV μ') {r : Row} {p : Pl} {c : Array Value} {e : TypeId} {fr : Nat × Nat} (k : RowOk μ r p c e fr) : RowOk μ' r p c e fr :=
  ⟨fun i v hv => let ⟨v', a, b⟩ := k.1 i v hv; ⟨v', a, b.monoV h⟩, k.2⟩
theorem RowOk.mono {μ μ' : Mu} (h : μ.le μ') {r : Row} {p : Pl} {c : Array Value} {e : TypeId} {fr : Nat × Nat} (k : RowOk μ r p c e fr) : RowOk μ' r p c e fr := k.monoV h.v
theorem OR.monoV {μ μ' : Mu} (h : μ.leV μ') {o : AObj} {p : Pl} {w : World} (k : OR μ o p w) : OR μ' o p w := by
  cases o with
  | row r => obtain ⟨c, e, fr, a, b⟩ := k; exact ⟨c, e, fr, a, b.monoV h⟩
  | map es clock => obtain ⟨es', a, b, c⟩ := k; exact ⟨es', a, b, fun i e e' x y => (c i e e' x y).monoV h⟩
  | mapIter m s sn st =>
    obtain ⟨z, m', a, b⟩ := k
    refine ⟨z, m', a, ?_⟩
    cases m with
    | none => exact b
    | some v => obtain ⟨q, x, y⟩ := b; exact ⟨q, h.1 _ _ x, y⟩
  | strIter s pos => exact k
  | lmap es => obtain ⟨es1, cl, hp, es', a, b, c⟩ := k; exact ⟨es1, cl, hp, es', a, b, fun i e e' x y => (c i e e' x y).monoV h⟩
theorem OR.mono {μ μ' : Mu} (h : μ.le μ') {o : AObj} {p : Pl} {w : World} (k : OR μ o p w) : OR μ' o p w := k.monoV h.v
theorem OR.of_block {μ : Mu} {o : AObj} {p : Pl} {w w' : World} (h : w'.heap[p.blk]? = w.heap[p.blk]?) (k : OR μ o p w) : OR μ o p w' := by
  cases o <;> simp only [OR, h] at k ⊢ <;> exact k

theorem Heap.get_put (H : Heap) (v : Nat) (o : AObj) (u : Nat) : (H.put v o).get u = if u = v then some o else H.get u := by simp [Heap.get, Heap.put_def, PT.get_set]
theorem Heap.get_kill (H : Heap) (v u : Nat) : (H.kill v).get u = if u = v then none else H.get u := by simp [Heap.get, Heap.kill_def, PT.get_set]
theorem Heap.get_add (H : Heap) (o : AObj) (u : Nat) : (H.add o).get u = if u = H.next then some o else H.get u := by simp [Heap.get, Heap.add_def, PT.get_set]
theorem Heap.row_eq {H : Heap} {v : Nat} {r : Row} (h : H.row v = some r) : H.get v = some (.row r) := by
  unfold Heap.row at h
  split at h
  · rename_i r' e; simp at h; subst h; exact e
  · cases h
theorem Heap.row_of_get {H : Heap} {v : Nat} {r : Row} (h : H.get v = some (.row r)) : H.row v = some r := by simp [Heap.row, h]

def Mu.ext (μ : Mu) (v : Nat) (p : Pl) : Mu := { μ with pl := fun u => if u = v then some p else μ.pl u }
theorem Mu.le_ext {μ : Mu} {v : Nat} {p : Pl} (h : μ.pl v = none) : μ.le (μ.ext v p) := by
  refine ⟨fun u q hq => ?_, fun _ _ h => h, fun _ => rfl⟩
  simp only [Mu.ext]
  by_cases e : u = v
  · subst e; rw [h] at hq; cases hq
  · rw [if_neg e]; exact hq
theorem Mu.ext_same (μ : Mu) (v : Nat) (p : Pl) : (μ.ext v p).pl v = some p := by simp [Mu.ext]

section
variable {B : Nat} {W0 w w' : World} {μ : Mu} {H : Heap}

/-- A world whose blocks are those of another. -/
theorem HR.of_world (h : HR B W0 μ H w) (hb : Below B w w') (hs : w.heap.size ≤ w'.heap.size) (hh : ∀ v o p, H.get v = some o → μ.pl v = some p → w'.heap[p.blk]? = w.heap[p.blk]?)
    (hk : ∀ b O, μ.kp b = some O → w'.heap[b]? = w.heap[b]?) : HR B W0 μ H w' where
  below := h.below.trans hb
  base := Nat.le_trans h.base hs
  fresh := h.fresh
  atoms := h.atoms
  obj := fun v o hv => let ⟨p, a, b, c⟩ := h.obj v o hv; ⟨p, a, b.of_block (hh v o p hv a), c⟩
  inj := h.inj
  kept := fun b O e => (hk b O e).trans (h.kept b O e)
  aprt := h.aprt

theorem HR.congr {H2 : Heap} (h : HR B W0 μ H w) (hg : ∀ v, H2.get v = H.get v) (hn : H2.next = H.next) : HR B W0 μ H2 w where
  below := h.below
  base := h.base
  fresh := by rw [hn]; exact h.fresh
  atoms := h.atoms
  obj := fun v o hv => h.obj v o (by rw [← hg]; exact hv)
  inj := fun v v' o o' p p' a b => h.inj v v' o o' p p' (by rw [← hg]; exact a) (by rw [← hg]; exact b)
  kept := h.kept
  aprt := fun v o p a => h.aprt v o p (by rw [← hg]; exact a)

theorem HR.drawn (h : HR B W0 μ H w) (d : Nat) : HR B W0 μ H { w with drawn := d } :=
  h.of_world ⟨rfl, rfl, rfl, Nat.le_refl _, fun _ _ => rfl⟩ (Nat.le_refl _) (fun _ _ _ _ _ => rfl) (fun _ _ _ => rfl)

theorem HR.lt_next (h : HR B W0 μ H w) {v : Nat} {p : Pl} (hp : μ.pl v = some p) : v < H.next := by
  rcases Nat.lt_or_ge v H.next with k | k
  · exact k
  · rw [h.fresh v k] at hp; cases hp

theorem HR.kill (h : HR B W0 μ H w) (v : Nat) : HR B W0 μ (H.kill v) w where
  below := h.below
  base := h.base
  fresh := h.fresh
  atoms := h.atoms
  obj := fun u o hu => by
    rw [Heap.get_kill] at hu
    split at hu
    · cases hu
    · exact h.obj u o hu
  inj := fun u u' o o' p p' a b => by
    rw [Heap.get_kill] at a b
    split at a
    · cases a
    · split at b
      · cases b
      · exact h.inj u u' o o' p p' a b
  kept := h.kept
  aprt := fun u o p hu => by
    rw [Heap.get_kill] at hu
    split at hu
    · cases hu
    · exact h.aprt u o p hu

/-- A new object at a block that no other own object has. -/
theorem HR.add (h : HR B W0 μ H w) (o : AObj) (p : Pl) (hb : Below B w w') (hs : w.heap.size ≤ w'.heap.size) (hB : B ≤ p.blk)
    (hown : o.own = true)
    (hfree : ∀ v o' q, H.get v = some o' → μ.pl v = some q → o'.own = true → q.blk ≠ p.blk)
    (hh : ∀ b, b ≠ p.blk → b < w.heap.size → w'.heap[b]? = w.heap[b]?) (hkp : μ.kp p.blk = none)
    (ho : OR (μ.ext H.next p) o p w') : HR B W0 (μ.ext H.next p) (H.add o) w' where
  below := h.below.trans hb
  base := Nat.le_trans h.base hs
  fresh := fun v hv => by
    have hv' : H.next + 1 ≤ v := hv
    simp only [Mu.ext]
    rw [if_neg (by omega)]
    exact h.fresh v (by omega)
  atoms := h.atoms
  obj := fun v o' hv => by
    rw [Heap.get_add] at hv
    split at hv
    · rename_i e
      cases hv
      exact ⟨p, by rw [e]; exact Mu.ext_same μ _ p, ho, fun _ => hB, fun k => by rw [hown] at k; cases k⟩
    · rename_i e
      obtain ⟨q, a, b, c, d⟩ := h.obj v o' hv
      have hne : q.blk ≠ p.blk := by
        cases hq : o'.own with
        | true => exact hfree v o' q hv a hq
        | false => have := d hq; omega
      have hlt : q.blk < w.heap.size := by
        cases o' <;> simp only [OR] at b
        all_goals first
          | (obtain ⟨_, _, _, hx, _⟩ := b; exact (Array.getElem?_eq_some_iff.1 hx).1)
          | (obtain ⟨_, hx, _⟩ := b; exact (Array.getElem?_eq_some_iff.1 hx).1)
          | (obtain ⟨_, _, hx, _⟩ := b; exact (Array.getElem?_eq_some_iff.1 hx).1)
          | (obtain ⟨_, _, _, _, hx, _⟩ := b; exact (Array.getElem?_eq_some_iff.1 hx).1)
          | (obtain ⟨_, hx⟩ := b; exact (Array.getElem?_eq_some_iff.1 hx).1)
          | exact (Array.getElem?_eq_some_iff.1 b).1
      exact ⟨q, (Mu.le_ext (h.fresh _ (Nat.le_refl _))).1 _ _ a, (b.of_block (hh _ hne hlt)).mono (Mu.le_ext (h.fresh _ (Nat.le_refl _))), c, d⟩
  inj := fun u u' o1 o2 p1 p2 a b k1 k2 hp1 hp2 he => by
    rw [Heap.get_add] at a b
    simp only [Mu.ext] at hp1 hp2
    split at a
    · rename_i e1
      split at b
      · rename_i e2; rw [e1, e2]
      · rename_i e2
        cases a
        rw [if_pos e1] at hp1
        rw [if_neg e2] at hp2
        cases hp1
        exact absurd he.symm (hfree u' o2 p2 b hp2 k2)
    · rename_i e1
      split at b
      · rename_i e2
        cases b
        rw [if_pos e2] at hp2
        rw [if_neg e1] at hp1
        cases hp2
        exact absurd he (hfree u o1 p1 a hp1 k1)
      · rename_i e2
        rw [if_neg e1] at hp1
        rw [if_neg e2] at hp2
        exact h.inj u u' o1 o2 p1 p2 a b k1 k2 hp1 hp2 he
  kept := fun b O e => by
    have hlt : b < w.heap.size := (Array.getElem?_eq_some_iff.1 (h.kept b O e)).1
    have hne : b ≠ p.blk := fun k => by rw [k] at e; exact absurd (e.symm.trans hkp) (by simp)
    rw [hh b hne hlt]; exact h.kept b O e
  aprt := fun u o' q hu ho' hq => by
    rw [Heap.get_add] at hu
    simp only [Mu.ext] at hq
    split at hu
    · rename_i e
      rw [if_pos e] at hq; cases hq; exact hkp
    · rename_i e
      rw [if_neg e] at hq
      exact h.aprt u o' q hu ho' hq

theorem HR.kp_top (h : HR B W0 μ H w) : μ.kp w.heap.size = none := by
  cases e : μ.kp w.heap.size with
  | none => rfl
  | some O =>
    have := (Array.getElem?_eq_some_iff.1 (h.kept _ O e)).1
    omega

/-- A new block. -/
theorem HR.push (h : HR B W0 μ H w) (o : AObj) (O : Obj) (off ex : Nat) (hown : o.own = true)
    (ho : OR (μ.ext H.next ⟨w.heap.size, off, ex⟩) o ⟨w.heap.size, off, ex⟩ { w with heap := w.heap.push O }) :
    HR B W0 (μ.ext H.next ⟨w.heap.size, off, ex⟩) (H.add o) { w with heap := w.heap.push O } := by
  refine h.add o ⟨w.heap.size, off, ex⟩ ?_ (by simp) h.base hown ?_ ?_ h.kp_top ho
  · exact (Below.refl B w).alloc h.base O
  · intro v o' q hv hq _
    obtain ⟨q', a, b, _⟩ := h.obj v o' hv
    rw [a] at hq; cases hq
    have hlt : q.blk < w.heap.size := by
      cases o' <;> simp only [OR] at b
      all_goals first
        | (obtain ⟨_, _, _, hx, _⟩ := b; exact (Array.getElem?_eq_some_iff.1 hx).1)
        | (obtain ⟨_, hx, _⟩ := b; exact (Array.getElem?_eq_some_iff.1 hx).1)
        | (obtain ⟨_, _, hx, _⟩ := b; exact (Array.getElem?_eq_some_iff.1 hx).1)
        | (obtain ⟨_, _, _, _, hx, _⟩ := b; exact (Array.getElem?_eq_some_iff.1 hx).1)
        | (obtain ⟨_, hx⟩ := b; exact (Array.getElem?_eq_some_iff.1 hx).1)
        | exact (Array.getElem?_eq_some_iff.1 b).1
    show q.blk ≠ w.heap.size
    omega
  · intro b hb hlt
    show (w.heap.push O)[b]? = _
    rw [Array.getElem?_push, if_neg (by show b ≠ w.heap.size; exact hb)]

/-- An own object turned in place. -/
theorem HR.upd (h : HR B W0 μ H w) {v : Nat} {o o' : AObj} {p : Pl} (hv : H.get v = some o) (hp : μ.pl v = some p) (hown : o.own = true) (hown' : o'.own = true)
    (hw : w'.os = w.os ∧ w'.tape = w.tape ∧ w'.output = w.output ∧ w'.heap.size = w.heap.size)
    (hh : ∀ b, b ≠ p.blk → w'.heap[b]? = w.heap[b]?) (ho : OR μ o' p w') : HR B W0 μ (H.put v o') w' := by
  have hB : B ≤ p.blk := by
    obtain ⟨q, a, _, c, _⟩ := h.obj v o hv
    rw [a] at hp; cases hp; exact c hown
  have hb : Below B w w' := ⟨hw.1, hw.2.1, hw.2.2.1, by omega, fun k hk => hh k (by omega)⟩
  exact {
    below := h.below.trans hb
    base := by have := h.base; omega
    fresh := h.fresh
    atoms := h.atoms
    obj := fun u o2 hu => by
      rw [Heap.get_put] at hu
      split at hu
      · rename_i e
        subst e; cases hu
        exact ⟨p, hp, ho, fun _ => hB, fun k => by rw [hown'] at k; cases k⟩
      · rename_i e
        obtain ⟨q, a, b, c, d⟩ := h.obj u o2 hu
        refine ⟨q, a, b.of_block (hh _ ?_), c, d⟩
        intro he
        cases hq : o2.own with
        | true => exact e (h.inj u v o2 o q p hu hv hq hown a hp he)
        | false => have := d hq; omega
    inj := fun u u' o1 o2 p1 p2 a b k1 k2 => by
      rw [Heap.get_put] at a b
      have ha : ∃ o3, H.get u = some o3 ∧ o3.own = true := by
        split at a
        · rename_i e; subst e; exact ⟨o, hv, hown⟩
        · exact ⟨o1, a, k1⟩
      have hb2 : ∃ o3, H.get u' = some o3 ∧ o3.own = true := by
        split at b
        · rename_i e; subst e; exact ⟨o, hv, hown⟩
        · exact ⟨o2, b, k2⟩
      obtain ⟨o3, x1, x2⟩ := ha
      obtain ⟨o4, y1, y2⟩ := hb2
      exact h.inj u u' o3 o4 p1 p2 x1 y1 x2 y2
    kept := fun b O e => by
      have hne : b ≠ p.blk := fun k => by rw [k] at e; exact absurd (e.symm.trans (h.aprt v o p hv hown hp)) (by simp)
      rw [hh b hne]; exact h.kept b O e
    aprt := fun u o1 p1 a k1 hp1 => by
      rw [Heap.get_put] at a
      split at a
      · rename_i e; subst e
        rw [hp] at hp1; cases hp1
        exact h.aprt _ o p hv hown hp
      · exact h.aprt u o1 p1 a k1 hp1 }
end

/-! cells, read and written -/
section
variable {B : Nat} {W0 w : World} {μ : Mu} {H : Heap}

theorem HR.row (h : HR B W0 μ H w) {v : Nat} {r : Row} (hr : H.row v = some r) : ∃ p c e fr, μ.pl v = some p ∧ w.heap[p.blk]? = some (.cells c e fr) ∧ RowOk μ r p c e fr := by
  obtain ⟨p, a, b, _⟩ := h.obj v _ (Heap.row_eq hr)
  obtain ⟨c, e, fr, x, y⟩ := b
  exact ⟨p, c, e, fr, a, x, y⟩

theorem cell?_of_block {w : World} {b o : Nat} {c : Array Value} {e : TypeId} {fr : Nat × Nat} (h : w.heap[b]? = some (.cells c e fr)) : w.cell? ⟨b, o, none⟩ = c[o]? := by
  simp [World.cell?, h]
theorem frozen?_of_block {w : World} {b o : Nat} {c : Array Value} {e : TypeId} {fr : Nat × Nat} (h : w.heap[b]? = some (.cells c e fr)) : w.frozen? ⟨b, o, none⟩ = (decide (fr.1 ≤ o) && decide (o < fr.2)) := by
  simp [World.frozen?, h]
theorem Addr.add_none (b o n : Nat) : (Addr.mk b o none).add n = ⟨b, o + n, none⟩ := by
  unfold Addr.add
  split
  · subst_vars; rfl
  · rfl

/-- The cells that 'rdCells' tells lie in the world. -/
theorem HR.rd (h : HR B W0 μ H w) {v o n : Nat} {cs : List Value} {p : Pl} (hc : rdCells H v o n = some cs) (hp : μ.pl v = some p) :
    ∃ cs', cs.length = n ∧ VL μ cs cs' ∧ ∀ j x, cs'[j]? = some x → w.cell? ((Addr.mk p.blk (p.off + o) none).add j) = some x := by
  simp only [rdCells, Option.bind_eq_bind, Option.bind_eq_some_iff] at hc
  obtain ⟨r, hr, hc⟩ := hc
  split at hc
  case isFalse => cases hc
  case isTrue hle =>
    cases hc
    obtain ⟨q, c, e, fr, a, b, k, _⟩ := h.row hr
    rw [a] at hp; cases hp
    have hlen : ((r.cs.drop o).take n).length = n := by simp; omega
    have key : ∀ i, i < n → ∃ x x', (List.take n (List.drop o r.cs))[i]? = some x ∧ c[p.off + o + i]? = some x' ∧ VR μ x x' := by
      intro i hi
      have hi2 : o + i < r.cs.length := by omega
      obtain ⟨x', y1, y2⟩ := k (o + i) r.cs[o + i] (List.getElem?_eq_getElem hi2)
      refine ⟨r.cs[o + i], x', ?_, ?_, y2⟩
      · rw [List.getElem?_take, if_pos hi, List.getElem?_drop]; exact List.getElem?_eq_getElem hi2
      · rw [← y1]; congr 1; omega
    refine ⟨(List.range n).map fun i => (c[p.off + o + i]?).getD undefV, hlen, ⟨by simp [hlen], ?_⟩, ?_⟩
    · intro i x x' hx hx'
      have hi : i < n := by have := (List.getElem?_eq_some_iff.1 hx).1; omega
      obtain ⟨y, y', a1, a2, a3⟩ := key i hi
      rw [a1] at hx; cases hx
      rw [List.getElem?_map, List.getElem?_range hi] at hx'
      simp only [Option.map_some, a2, Option.getD_some, Option.some.injEq] at hx'
      subst hx'; exact a3
    · intro j x hx
      have hj : j < n := by have := (List.getElem?_eq_some_iff.1 hx).1; simpa using this
      obtain ⟨y, y', a1, a2, a3⟩ := key j hj
      rw [List.getElem?_map, List.getElem?_range hj] at hx
      simp only [Option.map_some, a2, Option.getD_some, Option.some.injEq] at hx
      subst hx
      rw [Addr.add_none, cell?_of_block b]
      exact a2
end

/-- The world with one block's cells turned. -/
def setRow (w : World) (b : Nat) (c : Array Value) (e : TypeId) (fr : Nat × Nat) : World := { w with heap := w.heap.setIfInBounds b (.cells c e fr) }
theorem setRow_heap (w : World) (b : Nat) (c : Array Value) (e : TypeId) (fr : Nat × Nat) (k : Nat) : (setRow w b c e fr).heap[k]? = if k = b ∧ b < w.heap.size then some (.cells c e fr) else w.heap[k]? := by
  simp only [setRow, Array.getElem?_setIfInBounds]
  by_cases e1 : b = k
  · subst e1
    by_cases hb : b < w.heap.size
    · simp [hb]
    · simp [hb]
  · rw [if_neg e1, if_neg (by omega)]
theorem setRow_size (w : World) (b : Nat) (c : Array Value) (e : TypeId) (fr : Nat × Nat) : (setRow w b c e fr).heap.size = w.heap.size := by simp [setRow]
theorem setRow_setRow (w : World) (b : Nat) (c c' : Array Value) (e e' : TypeId) (fr fr' : Nat × Nat) : setRow (setRow w b c e fr) b c' e' fr' = setRow w b c' e' fr' := by
  simp only [setRow]
  congr 1
  apply Array.ext_getElem?
  intro i
  simp only [Array.getElem?_setIfInBounds, Array.size_setIfInBounds]
  by_cases h1 : b = i
  · simp [h1]
  · simp [h1]
theorem setRow_self {w : World} {b : Nat} {c : Array Value} {e : TypeId} {fr : Nat × Nat} (h : w.heap[b]? = some (.cells c e fr)) : setRow w b c e fr = w := by
  have : w.heap.setIfInBounds b (.cells c e fr) = w.heap := by
    apply Array.ext_getElem?
    intro i
    rw [Array.getElem?_setIfInBounds]
    by_cases h1 : b = i
    · subst h1
      obtain ⟨hb, hx⟩ := Array.getElem?_eq_some_iff.1 h
      simp [hb, hx]
    · simp [h1]
  simp [setRow, this]
theorem setCell_row {w : World} {b o : Nat} {c : Array Value} {e : TypeId} {fr : Nat × Nat} (v : Value) (h : w.heap[b]? = some (.cells c e fr)) :
    w.setCell ⟨b, o, none⟩ v = setRow w b (c.setIfInBounds o v) e fr := by
  simp only [World.setCell, setRow]
  congr 1
  apply Array.ext_getElem?
  intro i
  rw [Array.getElem?_modify, Array.getElem?_setIfInBounds]
  obtain ⟨hb, hx⟩ := Array.getElem?_eq_some_iff.1 h
  by_cases h1 : b = i
  · subst h1; simp [hb, hx]
  · simp [h1]

/-- Cells from 'o' on replaced. -/
def putCells (c : Array Value) (o : Nat) (vs : List Value) : Array Value := (c.toList.take o ++ vs ++ c.toList.drop (o + vs.length)).toArray
theorem putCells_size (c : Array Value) (o : Nat) (vs : List Value) (h : o + vs.length ≤ c.size) : (putCells c o vs).size = c.size := by
  simp [putCells]; omega
theorem putCells_get (c : Array Value) (o : Nat) (vs : List Value) (h : o + vs.length ≤ c.size) (i : Nat) :
    (putCells c o vs)[i]? = if i < o then c[i]? else if i < o + vs.length then vs[i - o]? else c[i]? := by
  simp only [putCells, List.getElem?_toArray]
  rw [List.getElem?_append, List.getElem?_append]
  simp only [List.length_append, List.length_take, Array.length_toList]
  have e : min o c.size = o := by omega
  rw [e]
  by_cases h1 : i < o
  · rw [if_pos (by omega), if_pos h1, if_pos h1, List.getElem?_take, if_pos h1]; simp
  · by_cases h2 : i < o + vs.length
    · rw [if_pos h2, if_neg h1, if_neg h1, if_pos h2]
    · rw [if_neg h2, if_neg h1, if_neg h2, List.getElem?_drop]
      have : o + vs.length + (i - (o + vs.length)) = i := by omega
      rw [this]; simp
theorem putCells_cons (c : Array Value) (o : Nat) (v : Value) (vs : List Value) (h : o + (v :: vs).length ≤ c.size) :
    putCells (c.setIfInBounds o v) (o + 1) vs = putCells c o (v :: vs) := by
  simp only [List.length_cons] at h
  apply Array.ext_getElem?
  intro i
  rw [putCells_get _ _ _ (by simp; omega), putCells_get _ _ _ (by simp; omega)]
  simp only [List.length_cons, Array.getElem?_setIfInBounds]
  by_cases h1 : i < o
  · rw [if_pos (by omega), if_neg (by omega), if_pos h1]
  · by_cases h2 : i = o
    · subst h2
      rw [if_pos (by omega), if_pos rfl, if_pos (by omega), if_neg h1, if_pos (by omega)]
      simp
    · by_cases h3 : i < o + 1 + vs.length
      · rw [if_neg (by omega), if_pos h3, if_neg h1, if_pos (by omega)]
        have : i - o = (i - (o + 1)) + 1 := by omega
        rw [this]; simp
      · rw [if_neg (by omega), if_neg h3, if_neg (by omega), if_neg h1, if_neg (by omega)]

theorem run_storeCells_row (P : Program) (b o : Nat) (e : TypeId) (fr : Nat × Nat) : ∀ (vs : List Value) (i : Nat) (c : Array Value) (w : World),
    w.heap[b]? = some (.cells c e fr) → o + i + vs.length ≤ c.size → (∀ k, k < c.size → ¬ (fr.1 ≤ k ∧ k < fr.2)) → (∀ v ∈ vs, v.oneCell' = true) →
    (storeCells ⟨b, o, none⟩ vs i).run P w = .ok () (setRow w b (putCells c (o + i) vs) e fr)
  | [], i, c, w, h, hle, _, _ => by
    have : putCells c (o + i) [] = c := by simp [putCells]
    rw [this, setRow_self h]
    simp [storeCells]
  | v :: vs, i, c, w, h, hle, hf, hv => by
    simp only [List.length_cons] at hle
    have h1 : v.oneCell' = true := hv v (by simp)
    have hin : o + i < c.size := by omega
    have hcell : w.cell? ⟨b, o + i, none⟩ = some c[o + i] := by rw [cell?_of_block h]; exact Array.getElem?_eq_getElem hin
    have hfz : w.frozen? ⟨b, o + i, none⟩ = false := by
      rw [frozen?_of_block h]
      have := hf (o + i) hin
      simp only [Bool.and_eq_false_iff, decide_eq_false_iff_not]
      by_cases hx : fr.1 ≤ o + i
      · right; intro hy; exact this ⟨hx, hy⟩
      · left; exact hx
    have hst : (store (⟨b, o + i, none⟩ : Addr) v .plain).run P w = .ok () (w.setCell ⟨b, o + i, none⟩ v) := by
      rw [run_store P w _ v _ h1, hcell]; simp [hfz]
    have hb := (Array.getElem?_eq_some_iff.1 h).1
    have ih := run_storeCells_row P b o e fr vs (i + 1) (c.setIfInBounds (o + i) v) (setRow w b (c.setIfInBounds (o + i) v) e fr)
      (by rw [setRow_heap, if_pos ⟨rfl, hb⟩]) (by simp; omega) (fun k hk => hf k (by simpa using hk)) (fun x hx => hv x (by simp [hx]))
    simp only [storeCells, Sem.run_bind, Addr.add_none, hst, Result.andThen_ok, setCell_row v h, ih]
    rw [setRow_setRow]
    congr 2
    have := putCells_cons c (o + i) v vs (by simp; omega)
    rw [← this]; congr 1

theorem VL.one {μ : Mu} {l l' : List Value} (h : VL μ l l') (hat : ∀ k x, μ.at_ k = some x → x.oneCell' = true) (ho : ∀ x ∈ l, okCell x = true) : ∀ x ∈ l', x.oneCell' = true := by
  intro x hx
  obtain ⟨i, hi⟩ := List.getElem?_of_mem hx
  have hl := h.1
  have hil : i < l.length := by have := (List.getElem?_eq_some_iff.1 hi).1; omega
  have hr := h.2 i l[i] x (List.getElem?_eq_getElem hil) hi
  have h1 := ho l[i] (List.getElem_mem hil)
  generalize l[i] = y at hr h1
  cases hr <;> first | rfl | (exact hat _ _ ‹_›) | (simp [okCell, known, Value.oneCell'] at h1)

theorem layL_eq (vs : List Value) (n : Nat) : ∀ (o : Nat) (cs : List Value), layL vs n o cs = if o ≤ cs.length then some (cs.take o ++ vs ++ cs.drop (o + n)) else none
  | 0, cs => by
    show some (vs ++ cs.drop n) = _
    rw [if_pos (Nat.zero_le _)]; simp
  | o + 1, [] => by
    show none = _
    rw [if_neg (by simp)]
  | o + 1, c :: r => by
    show @Option.rec (List Value) (fun _ => Option (List Value)) none (fun l => some (c :: l)) (layL vs n o r) = _
    rw [layL_eq vs n o r]
    by_cases h : o ≤ r.length
    · rw [if_pos h, if_pos (by simp; omega)]
      have : o + 1 + n = (o + n) + 1 := by omega
      simp [this]
    · rw [if_neg h, if_neg (by simp; omega)]
theorem wrCells_some {H H' : Heap} {v o : Nat} {vs : List Value} (h : wrCells H v o vs = some H') :
    ∃ r, H.row v = some r ∧ (!r.ro && Nat.ble o r.cs.length && Nat.ble (o + vs.length) r.lb && vs.all okCell) = true ∧
      H' = H.put v (.row { r with cs := r.cs.take o ++ vs ++ r.cs.drop (o + vs.length) }) := by
  have hw : wrCells H v o vs = @Option.rec Row (fun _ => Option Heap) none (fun r => wrRow H v o vs r) (H.row v) := by
    unfold wrCells
    rw [rowG_eq]
    cases H.row v <;> rfl
  rw [hw] at h
  cases hr : H.row v with
  | none => rw [hr] at h; cases h
  | some r =>
    rw [hr] at h
    obtain ⟨cs, lb, e, s, ro, op, fz⟩ := r
    refine ⟨_, rfl, ?_⟩
    have hq : wrRow H v o vs ⟨cs, lb, e, s, ro, op, fz⟩ = match ro, Nat.ble (o + vs.length) lb, vs.all okCell with
        | false, true, true => @Option.rec (List Value) (fun _ => Option Heap) none (fun l => some (H.put v (.row ⟨l, lb, e, s, ro, op, fz⟩))) (layL vs vs.length o cs)
        | _, _, _ => none := by
      rw [← allG_eq, ← lenG0_eq]
      show @Bool.rec (fun _ => Heap → Nat → Nat → List Value → Option Heap) _ _ ro H v o vs = _
      cases ro with
      | true => rfl
      | false =>
        show @Bool.rec (fun _ => Heap → Nat → Nat → List Value → Option Heap) _ _ (Nat.ble (o + lenG0 vs) lb) H v o vs = _
        cases Nat.ble (o + lenG0 vs) lb with
        | false => rfl
        | true =>
          show @Bool.rec (fun _ => Heap → Nat → Nat → List Value → Option Heap) _ _ (allG vs) H v o vs = _
          cases allG vs <;> rfl
    change wrRow H v o vs ⟨cs, lb, e, s, ro, op, fz⟩ = some H' at h
    rw [hq, layL_eq] at h
    cases ro with
    | true => cases h
    | false =>
      cases h1 : Nat.ble (o + vs.length) lb with
      | false => rw [h1] at h; cases h
      | true =>
        rw [h1] at h
        cases h2 : vs.all okCell with
        | false => rw [h2] at h; cases h
        | true =>
          rw [h2] at h
          by_cases ho : o ≤ cs.length
          · rw [if_pos ho] at h
            cases h
            refine ⟨?_, rfl⟩
            simp only [Bool.and_eq_true]
            simp [Nat.ble_eq_true_of_le ho, h1]
          · rw [if_neg ho] at h; cases h

section
variable {B : Nat} {W0 w : World} {μ : Mu} {H H' : Heap}
/-- Cells written. -/
theorem HR.wr (P : Program) (h : HR B W0 μ H w) {v o : Nat} {vs vs' : List Value} {p : Pl} (hc : wrCells H v o vs = some H') (hp : μ.pl v = some p) (hl : VL μ vs vs') :
    ∃ w', (storeCells ⟨p.blk, p.off + o, none⟩ vs').run P w = .ok () w' ∧ HR B W0 μ H' w' := by
  obtain ⟨r, hr, hcond, rfl⟩ := wrCells_some hc
  · simp only [Bool.and_eq_true, Bool.not_eq_true', Nat.ble_eq, List.all_eq_true] at hcond
    obtain ⟨⟨⟨hro, ho⟩, hlb⟩, hone⟩ := hcond
    obtain ⟨q, c, e, fr, a, b, k, k2⟩ := h.row hr
    rw [a] at hp; cases hp
    obtain ⟨he, hcl, hsz, hfr, hfz, hhd⟩ := k2 hro
    have hlen := hl.1
    have hone' : ∀ x ∈ vs', x.oneCell' = true := hl.one h.atoms hone
    have hin : p.off + o + 0 + vs'.length ≤ c.size := by
      have : p.off + r.lb ≤ c.size := by omega
      omega
    have hb := (Array.getElem?_eq_some_iff.1 b).1
    refine ⟨_, run_storeCells_row P p.blk (p.off + o) e fr vs' 0 c w b hin (cold_of hfr) hone', ?_⟩
    refine h.upd (Heap.row_eq hr) a (by simp [AObj.own, hro]) (by simp [AObj.own, hro]) ⟨rfl, rfl, rfl, setRow_size ..⟩ ?_ ?_
    · intro k hk
      rw [setRow_heap, if_neg (by omega)]
    · refine ⟨putCells c (p.off + o) vs', e, fr, by rw [setRow_heap, if_pos ⟨rfl, hb⟩]; rfl, ?_, ?_⟩
      · intro i x hx
        rw [putCells_get _ _ _ (by omega)]
        simp only at hx
        rw [List.getElem?_append, List.getElem?_append] at hx
        simp only [List.length_append, List.length_take] at hx
        have e1 : min o r.cs.length = o := by omega
        rw [e1] at hx
        by_cases h1 : i < o
        · rw [if_pos (by omega), if_pos h1, List.getElem?_take, if_pos h1] at hx
          rw [if_pos (by omega)]
          exact k i x hx
        · by_cases h2 : i < o + vs.length
          · rw [if_pos h2, if_neg h1] at hx
            rw [if_neg (by omega), if_pos (by omega)]
            obtain ⟨x', y1, y2⟩ := hl.getElem? hx
            exact ⟨x', by rw [← y1]; congr 1; omega, y2⟩
          · rw [if_neg h2, List.getElem?_drop] at hx
            rw [if_neg (by omega), if_neg (by omega)]
            have : o + vs.length + (i - (o + vs.length)) = i := by omega
            rw [this] at hx
            exact k i x hx
      · intro _
        refine ⟨he, ?_, ?_, ?_, hfz, hhd⟩
        · simp; omega
        · rw [putCells_size _ _ _ (by omega)]; exact hsz
        · rw [putCells_size _ _ _ (by omega)]; exact hfr
end
end Go.Vsx
