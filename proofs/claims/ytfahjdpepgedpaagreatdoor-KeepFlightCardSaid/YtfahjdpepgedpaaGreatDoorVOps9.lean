/- The operations are right, 9: iterators, interfaces, the rest. -/
import Derived.Test.YtfahjdpepgedpaaGreatDoorVLMap
set_option linter.all false
namespace Go.Vsx
open Go Go.RowKit

section
variable {P : Program} {E : Env} (T : TyOk P E) {B : Nat} {W0 w : World} {μ : Mu} {H H' : Heap}

theorem newIter (hr : HR B W0 μ H w) (o : AObj) (O : Obj) (hown : o.own = true)
    (ho : ∀ μ' : Mu, μ.le μ' → OR μ' o ⟨w.heap.size, 0, 0⟩ { w with heap := w.heap.push O }) :
    SOk P B W0 μ w (do pure (.pointer (some ⟨← newObj O, 0, none⟩))) (.pointer (some ⟨H.next, 0, none⟩)) (H.add o) := by
  have hle : μ.le (μ.ext H.next ⟨w.heap.size, 0, 0⟩) := Mu.le_ext (hr.fresh _ (Nat.le_refl _))
  refine ⟨.pointer (some ⟨w.heap.size, 0, none⟩), { w with heap := w.heap.push O }, _, by simp [newObj, Sem.run], hle, hr.push _ _ 0 0 hown (ho _ hle), ?_⟩
  exact .ptr H.next 0 ⟨w.heap.size, 0, 0⟩ (Mu.ext_same ..)

include T
theorem range_ok (hr : HR B W0 μ H w) {t : TypeId} {x x' v : Value} (h : rangeA E H t x = some (v, H')) (hx : VR μ x x') : SOk P B W0 μ w (Instr.range t x') v H' := by
  unfold rangeA at h
  simp only [Option.bind_eq_bind, Option.bind_eq_some_iff] at h
  obtain ⟨d, hd, h⟩ := h
  split at h
  · cases h; cases hx
    rename_i s
    obtain ⟨v', w', μ', a, b⟩ := newIter (P := P) hr (.strIter s 0) (.stringIter s 0) rfl (fun μ' _ => ⟨rfl, by show (w.heap.push _)[_]? = _; simp⟩)
    refine ⟨v', w', μ', ?_, b⟩
    simp only [Sem.run_bind] at a
    simp only [Instr.range, Sem.run_bind, T.run_und hd, Result.andThen_ok, Sem.run_pure]
    exact a
  · cases h; cases hx
    obtain ⟨v', w', μ', a, b⟩ := newIter (P := P) hr (.mapIter none 0 [] 0) (.mapIter none 0 #[] 0) rfl (fun μ' _ => ⟨rfl, none, by show (w.heap.push _)[_]? = _; simp, rfl⟩)
    refine ⟨v', w', μ', ?_, b⟩
    simp only [Sem.run_bind] at a
    simp only [Instr.range, Sem.run_bind, T.run_und hd, Result.andThen_ok, Sem.run_pure]
    exact a
  · split at h
    case h_2 => cases h
    case h_1 r _ es clock hg =>
    cases h
    cases hx with
    | map _ p hp =>
    obtain ⟨q, es', h1, h2, h3⟩ := hr.mapAt hg
    rw [h1] at hp; cases hp
    obtain ⟨v', w', μ', a, b⟩ := newIter (P := P) hr (.mapIter (some r) clock [] clock) (.mapIter (some p.blk) clock #[] clock) rfl
      (fun μ' hle => ⟨rfl, some p.blk, by show (w.heap.push _)[_]? = _; simp, p, hle.1 _ _ h1, rfl⟩)
    refine ⟨v', w', μ', ?_, b⟩
    simp only [Sem.run_bind] at a
    simp only [Instr.range, Sem.run_bind, T.run_und hd, Result.andThen_ok, Sem.run_pure, getObj, Sem.run, h2]
    exact a
  · cases h
omit T

theorem tupleVR {l l' : List Value} (h : VL μ l l') : VR μ (.tuple l.toArray) (.tuple l'.toArray) := .tuple _ _ h.toArray.1 h.toArray.2

theorem MEs.filter {μ : Mu} {f : Nat → Bool} : ∀ (es es' : List MapEntry), MEs μ es es' → MEs μ (es.filter fun e => f e.born) (es'.filter fun e => f e.born)
  | [], l, h => by have := h.nil_inv; subst this; exact h
  | e :: es, l, h => by
    obtain ⟨e', es', rfl, h1, h2⟩ := h.cons_inv
    have ih := MEs.filter (f := f) es es' h2
    have hb : f e.born = f e'.born := by rw [h1.2.2]
    simp only [List.filter_cons, hb]
    split
    · refine ⟨by simpa using ih.1, fun i a b x y => ?_⟩
      cases i with
      | zero => simp at x y; subst x; subst y; exact h1
      | succ i => exact ih.2 i a b (by simpa using x) (by simpa using y)
    · exact ih

theorem MEs.all {μ : Mu} {f : Nat → Bool} : ∀ (es es' : List MapEntry), MEs μ es es' → (es.all fun e => f e.born) = (es'.all fun e => f e.born)
  | [], l, h => by have := h.nil_inv; subst this; rfl
  | e :: es, l, h => by
    obtain ⟨e', es', rfl, h1, h2⟩ := h.cons_inv
    simp only [List.all_cons, MEs.all (f := f) es es' h2, h1.2.2]

theorem MEs.find {μ : Mu} {f : Nat → Bool} {e : MapEntry} : ∀ (es es' : List MapEntry), MEs μ es es' → es.find? (fun e => f e.born) = some e → ∃ e', es'.find? (fun e => f e.born) = some e' ∧ ME μ e e'
  | [], l, h, k => by simp at k
  | x :: es, l, h, k => by
    obtain ⟨e', es', rfl, h1, h2⟩ := h.cons_inv
    rw [List.find?_cons] at k ⊢
    rw [← h1.2.2]
    split at k
    · cases k; exact ⟨e', rfl, h1⟩
    · exact MEs.find es es' h2 k

theorem next_ok (hr : HR B W0 μ H w) {it it' v : Value} {s : Bool} {ty : TypeId} (h : nextA H it s = some (v, H')) (hi : VR μ it it') : SOk P B W0 μ w (Instr.next it' s ty) v H' := by
  unfold nextA at h
  split at h
  case h_2 => cases h
  case h_1 r =>
  cases hi with
  | ptr _ _ p hp =>
  have over : VR μ (.tuple #[.bool false]) (.tuple #[.bool false]) := tupleVR (VL.cons (.bool false) VL.nil)
  split at h
  · rename_i s pos hg
    obtain ⟨q, a, b, hB, _⟩ := hr.obj r _ hg
    rw [a] at hp; cases hp
    obtain ⟨hz, hb⟩ := b
    split at h
    · rename_i hlt
      cases h
      obtain ⟨hl, _⟩ := Array.getElem?_eq_some_iff.1 hb
      refine ⟨.tuple #[.bool true, .int .i64 pos, .int .i32 (Utf8.decode s pos).1], { w with heap := w.heap.setIfInBounds p.blk (.stringIter s (pos + (Utf8.decode s pos).2)) }, μ, ?_, μ.le_refl, ?_, tupleVR (VL.cons (.bool true) (VL.cons (.int _ _) (VL.cons (.int _ _) VL.nil)))⟩
      · simp only [Instr.next, hz, Nat.add_zero, Sem.run_bind, getObj, Sem.run, hb, Result.andThen_ok, hlt, if_true, setObj]
        rfl
      · refine hr.upd hg a rfl rfl ⟨rfl, rfl, rfl, by simp⟩ ?_ ⟨hz, by show (w.heap.setIfInBounds _ _)[_]? = _; simp [hl]⟩
        intro k hk
        show (w.heap.setIfInBounds _ _)[k]? = _
        rw [Array.getElem?_setIfInBounds, if_neg (by omega)]
    · rename_i hlt
      cases h
      refine ⟨.tuple #[.bool false], w, μ, ?_, μ.le_refl, hr, over⟩
      simp only [Instr.next, hz, Nat.add_zero, Sem.run_bind, getObj, Sem.run, hb, Result.andThen_ok, hlt, if_false]
      rfl
  · rename_i since seen last hg
    cases h
    obtain ⟨q, a, b, hB, _⟩ := hr.obj r _ hg
    rw [a] at hp; cases hp
    obtain ⟨hz, m', hb, hm⟩ := b
    simp only at hm
    subst hm
    refine ⟨.tuple #[.bool false], w, μ, ?_, μ.le_refl, hr, over⟩
    simp only [Instr.next, hz, Nat.add_zero, Sem.run_bind, getObj, Sem.run, hb, Result.andThen_ok]
    rfl
  · rename_i m since seen last hg
    obtain ⟨q, a, b, hB, _⟩ := hr.obj r _ hg
    rw [a] at hp; cases hp
    obtain ⟨hz, m', hb, pm, hm1, hm2⟩ := b
    subst hm2
    split at h
    case h_2 => cases h
    case h_1 es clock hgm =>
    obtain ⟨q, es', h1, h2, h3⟩ := hr.mapAt hgm
    rw [hm1] at h1; cases h1
    split at h
    case isTrue => cases h
    case isFalse hno =>
    simp only [] at h
    have el : es.length = es'.size := by have := h3.1; simpa using this
    have g1 : es'.isEmpty = es.isEmpty := by
      rw [Bool.eq_iff_iff]; simp [← Array.size_eq_zero_iff, ← el]
    have g2 : (es'.all fun e => decide (e.born ≥ last)) = es.all (fun e => Nat.ble last e.born) := by
      rw [← Array.all_toList, ← MEs.all (f := fun b => decide (b ≥ last)) es es'.toList h3]
      congr 1; funext e; rw [Bool.eq_iff_iff]; simp [Nat.ble_eq]
    have hno' : (!seen.toArray.isEmpty && !es'.isEmpty && es'.all fun e => decide (e.born ≥ last)) = false := by
      rw [g1, g2]; simpa using hno
    have left := MEs.filter (f := fun b => !seen.contains b) es es'.toList h3
    have old := MEs.filter (f := fun b => decide (b < since)) _ _ left
    have new := MEs.filter (f := fun b => decide (b ≥ since)) _ _ left
    have o1 : ((es.filter fun e => !seen.contains e.born).filter fun e => decide (e.born < since)) = ((es.filter fun e => !seen.contains e.born).filter fun e => Nat.blt e.born since) := by
      congr 1; funext e; rw [Bool.eq_iff_iff]; simp [Nat.blt_eq]
    have n1 : ((es.filter fun e => !seen.contains e.born).filter fun e => decide (e.born ≥ since)) = ((es.filter fun e => !seen.contains e.born).filter fun e => Nat.ble since e.born) := by
      congr 1; funext e; rw [Bool.eq_iff_iff]; simp [Nat.ble_eq]
    rw [o1] at old
    rw [n1] at new
    have oa : ((es'.filter fun e => !seen.toArray.contains e.born).filter fun e => decide (e.born < since)) = ((es'.toList.filter fun e => !seen.contains e.born).filter fun e => decide (e.born < since)).toArray := by
      apply Array.toList_inj.1; simp
    have na : ((es'.filter fun e => !seen.toArray.contains e.born).filter fun e => decide (e.born ≥ since)) = ((es'.toList.filter fun e => !seen.contains e.born).filter fun e => decide (e.born ≥ since)).toArray := by
      apply Array.toList_inj.1; simp
    generalize hO : ((es.filter fun e => !seen.contains e.born).filter fun e => Nat.blt e.born since) = O at h old
    generalize hN : ((es.filter fun e => !seen.contains e.born).filter fun e => Nat.ble since e.born) = N at h new
    split at h
    · cases h
      have e1 := old.nil_inv
      have e2 := new.nil_inv
      refine ⟨.tuple #[.bool false], w, μ, ?_, μ.le_refl, hr, over⟩
      simp only [Instr.next, hz, Nat.add_zero, Sem.run_bind, getObj, Sem.run, hb, Result.andThen_ok, h2, hno', oa, na, e1, e2]
      simp [choose, Sem.run, Question.forced]
    · rename_i e
      cases h
      obtain ⟨e', l, e1, me, ml⟩ := old.cons_inv
      have := ml.nil_inv
      subst this
      have e2 := new.nil_inv
      obtain ⟨hl, _⟩ := Array.getElem?_eq_some_iff.1 hb
      refine ⟨.tuple #[.bool true, e'.key, e'.val], { w with heap := w.heap.setIfInBounds p.blk (.mapIter (some pm.blk) since (seen.toArray.push e'.born) clock) }, μ, ?_, μ.le_refl, ?_, tupleVR (VL.cons (.bool true) (VL.cons me.1 (VL.cons me.2.1 VL.nil)))⟩
      · simp only [Instr.next, hz, Nat.add_zero, Sem.run_bind, getObj, Sem.run, hb, Result.andThen_ok, h2, hno', oa, na, e1, e2]
        simp [choose, Sem.run, Question.forced, setObj, hb]
      · refine hr.upd hg a rfl rfl ⟨rfl, rfl, rfl, by simp⟩ ?_ ⟨hz, some pm.blk, by show (w.heap.setIfInBounds _ _)[_]? = _; simp [hl, me.2.2], pm, hm1, rfl⟩
        intro k hk
        show (w.heap.setIfInBounds _ _)[k]? = _
        rw [Array.getElem?_setIfInBounds, if_neg (by omega)]
    · cases h
  · cases h

theorem entry_ok (hr : HR B W0 μ H w) {it it' v : Value} (h : entryA H it = some v) (hi : VR μ it it') : RdOk P μ w (Instr.entry it') v := by
  unfold entryA at h
  split at h
  case h_2 => cases h
  case h_1 r =>
  cases hi with
  | ptr _ _ p hp =>
  split at h
  case h_2 => cases h
  case h_1 m since seen stepped hg =>
  obtain ⟨q, a, b, hB, _⟩ := hr.obj r _ hg
  rw [a] at hp; cases hp
  obtain ⟨hz, m', hb, pm, hm1, hm2⟩ := b
  subst hm2
  split at h
  case h_2 => cases h
  case h_1 _ stamp es clock hlast hgm =>
  split at h
  case isTrue => cases h
  case isFalse hck =>
  split at h
  case h_2 => cases h
  case h_1 e hf =>
  cases h
  obtain ⟨q, es', h1, h2, h3⟩ := hr.mapAt hgm
  rw [hm1] at h1; cases h1
  obtain ⟨e', f1, f2⟩ := MEs.find (f := fun b => b == stamp) es es'.toList h3 hf
  have hback : seen.toArray.back? = some stamp := by simpa using hlast
  have f1' : es'.find? (fun e => e.born == stamp) = some e' := by simpa using f1
  refine ⟨.tuple #[e'.key, e'.val], ?_, tupleVR (VL.cons f2.1 (VL.cons f2.2.1 VL.nil))⟩
  simp only [Instr.entry, hz, Nat.add_zero, Sem.run_bind, getObj, Sem.run, hb, Result.andThen_ok, hback, h2, hck, f1']
  rfl

include T in
theorem typeAssert_ok {x x' v : Value} {xt a : TypeId} {ok : Bool} (h : typeAssertA E x a ok = some v) (hx : VR μ x x') : RdOk P μ w (Instr.typeAssert x' xt a ok) v := by
  simp only [typeAssertA, Option.bind_eq_bind, Option.bind_eq_some_iff] at h
  obtain ⟨d, hd, h⟩ := h
  split at h
  · cases h
  · rename_i t v0 hni
    split at h
    case isFalse => cases h
    case isTrue ht =>
    subst ht
    cases hx with
    | iface _ _ v' hv =>
    cases h
    cases ok with
    | true =>
      refine ⟨.tuple #[v', .bool true], ?_, tupleVR (VL.cons hv (VL.cons (.bool true) VL.nil))⟩
      simp only [Instr.typeAssert, Sem.run_bind, T.run_und hd, Result.andThen_ok]
      cases d <;> simp_all
    | false =>
      refine ⟨v', ?_, hv⟩
      simp only [Instr.typeAssert, Sem.run_bind, T.run_und hd, Result.andThen_ok]
      cases d <;> simp_all
  · cases h

include T in
theorem makeInterface_ok {x x' : Value} {t : TypeId} {d : TypeDesc} (hd : tyD E t = some d) (hn : ∀ ms, d ≠ .interface ms) (hx : VR μ x x') : RdOk P μ w (Instr.makeInterface t x') (.iface t x) := by
  refine ⟨.iface t x', ?_, .iface _ _ _ hx⟩
  simp only [Instr.makeInterface, Sem.run_bind, T.run_und hd, Result.andThen_ok]
  cases d <;> simp_all

theorem extract_ok {vs : Array Value} {x' v : Value} {i : Nat} (h : vs[i]? = some v) (hx : VR μ (.tuple vs) x') : RdOk P μ w (Instr.extract x' i) v := by
  cases hx with
  | tuple _ vs' hs hv =>
  have hi : i < vs.size := (Array.getElem?_eq_some_iff.1 h).1
  have : vs'[i]? = some vs'[i] := Array.getElem?_eq_getElem (by omega)
  exact ⟨_, by simp only [Instr.extract, this]; rfl, hv i _ _ h this⟩

theorem liesAt_off {e : TypeId} (hc : P.cellsOf e = 1) (count off n : Nat) (hn : off + n ≤ count) : liesAt P P.depth e count off e n = true := by
  have hd : P.depth = (2 * (P.types.size + Made.depth) + 1) + 1 := rfl
  rw [hd]
  simp only [liesAt, Bool.or_eq_true]
  left
  rw [hd]
  simp [rowAt, hc, hn, sameLayout, Nat.mod_one, Nat.div_one]

/-- Freezing cells of a row that is given up. -/
theorem HR.freezeKill (hr : HR B W0 μ H w) {v o n : Nat} {r : Row} {p : Pl} (hrow : H.row v = some r) (hro : r.ro = false) (hp : μ.pl v = some p) (hn : n ≠ 0) :
    HR B W0 μ (H.kill v) (w.freeze ⟨p.blk, o, none⟩ n) := by
  obtain ⟨p', c, e, fr, a, b, _⟩ := hr.row hrow
  rw [a] at hp; cases hp
  have hB : B ≤ p.blk := by
    obtain ⟨q, a', _, hb, _⟩ := hr.obj v _ (Heap.row_eq hrow)
    rw [a] at a'; cases a'
    exact hb (by simp [AObj.own, hro])
  rw [freeze_row hn b]
  refine (hr.kill v).of_world ⟨rfl, rfl, rfl, by rw [setRow_size]; exact Nat.le_refl _, fun k hk => by rw [setRow_heap, if_neg (by omega)]⟩ (by rw [setRow_size]; exact Nat.le_refl _) ?_ ?_
  case refine_2 =>
    intro b' O e2
    have hne : b' ≠ p.blk := fun k => by rw [k] at e2; exact absurd (e2.symm.trans (hr.aprt v _ p (Heap.row_eq hrow) (by simp [AObj.own, hro]) a)) (by simp)
    rw [setRow_heap, if_neg (fun h => hne h.1)]
  intro u ou q hu hq
  rw [Heap.get_kill] at hu
  split at hu
  · cases hu
  · rename_i hne
    rw [setRow_heap, if_neg]
    rintro ⟨hbb, _⟩
    cases hown : ou.own with
    | true => exact hne (hr.inj u v ou _ q p hu (Heap.row_eq hrow) hown (by simp [AObj.own, hro]) hq a hbb)
    | false =>
      obtain ⟨q', aa, _, _, hd⟩ := hr.obj u ou hu
      rw [aa] at hq; cases hq
      have := hd hown
      omega

theorem usDef_some (ts : Array TypeId) (ty : TypeId) (a : Addr) (l : Value) : Builtin.unsafeString_ ts ty #[.pointer (some a), l] =
      (do
        let n ← asInt l
        let some pt := ts[0]? | stuck "unsafe.String: no argument types"
        if n < 0 then runtimePanic (.error "unsafe.String: len out of range")
        if n > IntKind.i64.max then unsupported (.unsafePointer "String: a length above the largest int")
        if n = 0 then pure (.string .empty)
        else if ← variablesAt a (← elemOf pt) n.toNat then do
          let s ← loadBytes a .empty n.toNat
          freeze a n.toNat
          pure (.string s)
        else unsupported (.unsafePointer "String: not so many bytes at ptr")) := rfl

include T in
theorem unsafeString_ok (hr : HR B W0 μ H w) {t : TypeId} {v o : Nat} {n : Int} {k : IntKind} {x' : Value} {r : AR} {ts : Array TypeId} {ty : TypeId} (h : builtinA.unsafeStrA E H t v o n = some r)
    (hx : VR μ (.pointer (some ⟨v, o, none⟩)) x') (h0 : ts[0]? = some t) :
    ∃ u H', r = .val u H' ∧ SOk P B W0 μ w (Builtin.unsafeString_ ts ty #[x', .int k n]) u H' := by
  unfold builtinA.unsafeStrA at h
  split at h
  case isFalse => cases h
  case isTrue hn =>
  obtain ⟨hn0, hn1⟩ := hn
  cases hx with
  | ptr _ _ p hp =>
  have hmax : IntKind.i64.max = 9223372036854775807 := rfl
  have hneg : ¬ n < 0 := by omega
  have hbig : ¬ n > 9223372036854775807 := by omega
  split at h
  · rename_i hz
    cases h
    subst hz
    refine ⟨_, _, rfl, .string .empty, w, μ, ?_, μ.le_refl, hr, .str _⟩
    rw [usDef_some]
    simp [asInt, asIntOf, h0, hmax]
  · rename_i hz
    split at h
    case h_2 => cases h
    case h_1 e hte =>
    simp only [Option.bind_eq_bind, Option.bind_eq_some_iff] at h
    obtain ⟨row, hrow, h⟩ := h
    split at h
    case h_2 => cases h
    case h_1 hee =>
    split at h
    case isFalse => cases h
    case isTrue hc =>
    simp only [Bool.and_eq_true, decide_eq_true_eq, Bool.not_eq_true'] at hc
    obtain ⟨⟨hel, hro⟩, hes⟩ := hc
    simp only [Option.bind_eq_some_iff] at h
    obtain ⟨cs, hcs, bs, hbs, h⟩ := h
    cases h
    obtain ⟨m, rfl⟩ : ∃ m : Nat, n = m := ⟨n.toNat, by omega⟩
    have hm0 : m ≠ 0 := by omega
    obtain ⟨p', c, e1, fr, a, b, k1, k2⟩ := hr.row hrow
    rw [a] at hp; cases hp
    obtain ⟨he1, hcl, hsz2, _, _, _⟩ := k2 hro
    obtain ⟨cs', hl, hvl, hcell⟩ := hr.rd hcs a
    have e1 := bytesOfCells_eq hbs
    rw [e1] at hvl
    have e2 := hvl.bytes
    have hlen : bs.length = m := by rw [e1] at hl; simpa using hl
    have hcell' : ∀ j x, bs[j]? = some x → w.cell? ((⟨p.blk, p.off + o, none⟩ : Addr).add j) = some (.int .u8 x.toNat) := by
      intro j x hj
      refine hcell j _ ?_
      rw [e2]
      simp [hj]
    have hlb := Lib.run_loadBytes (P := P) w bs ⟨p.blk, p.off + o, none⟩ .empty hcell'
    rw [hlen] at hlb
    have hce : P.cellsOf e = 1 := by
      simp only [tySize, Option.map_eq_some_iff] at hes
      obtain ⟨i, i1, i2⟩ := hes
      obtain ⟨info, j1, _, j2, _⟩ := T.tt e i i1
      simp [Program.cellsOf, j1, j2, i2]
    have hin : p.off + o + m ≤ c.size := by
      have := hcell (m - 1)
      have h2 : cs'.length = m := by rw [e2]; simp [hlen]
      have h3 : cs'[m - 1]? = some cs'[m - 1] := List.getElem?_eq_getElem (by omega)
      have h4 := this _ h3
      rw [Addr.add_none, cell?_of_block b] at h4
      have := (Array.getElem?_eq_some_iff.1 h4).1
      omega
    subst he1
    subst hel
    have hlies := liesAt_off (P := P) hce (c.size / P.cellsOf row.elem) (p.off + o) m (by rw [hce]; simpa using hin)
    refine ⟨_, _, rfl, .string ⟨bs.toArray⟩, w.freeze ⟨p.blk, p.off + o, none⟩ m, μ, ?_, μ.le_refl, hr.freezeKill hrow hro a hm0, .str _⟩
    rw [usDef_some]
    simp [asInt, asIntOf, h0, hmax, hneg, hbig, hm0, variablesAt, World.shape?, b, elemOf, T.run_und hte, hlies, hlb]
end
end Go.Vsx
