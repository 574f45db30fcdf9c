/- The operations are right, 7: what is built and made. -/
import Derived.Test.YtfahjdpepgedpaaGreatDoorVOps6
set_option linter.all false
namespace Go.Vsx
open Go Go.RowKit

theorem foldl_put (off : Nat) : ∀ (l : List Value) (k : Nat) (c : Array Value), off + k + l.length ≤ c.size →
    (l.zipIdx k).foldl (fun cs (x : Value × Nat) => cs.setIfInBounds (off + x.2) x.1) c = putCells c (off + k) l
  | [], k, c, _ => by simp [putCells]
  | v :: l, k, c, h => by
    simp only [List.length_cons] at h
    rw [List.zipIdx_cons, List.foldl_cons]
    have ih := foldl_put off l (k + 1) (c.setIfInBounds (off + k) v) (by simp; omega)
    rw [ih]
    have := putCells_cons c (off + k) v l (by simp; omega)
    rw [← this]; congr 1

section
variable {P : Program} {E : Env} (T : TyOk P E) {B : Nat} {W0 w : World} {μ : Mu} {H H' : Heap}

def PL (μ : Mu) : List (Nat × Value) → List (Nat × Value) → Prop
  | [], [] => True
  | a :: l, b :: l' => a.1 = b.1 ∧ VR μ a.2 b.2 ∧ PL μ l l'
  | _, _ => False

theorem fill_ok (hat : ∀ k x, μ.at_ k = some x → x.oneCell' = true) {place : Nat → Option (Nat × Nat)} : ∀ (parts parts' : List (Nat × Value)) (cs cs' r : List Value), fillA place cs parts = some r → VL μ cs cs' → PL μ parts parts' →
    ∃ r', Instr.fill place cs'.toArray parts' = some r'.toArray ∧ VL μ r r'
  | [], parts', cs, cs', r, h, hc, hp => by
    cases parts' with
    | cons _ _ => exact hp.elim
    | nil =>
      simp only [fillA, Option.some.injEq] at h
      subst h
      exact ⟨cs', rfl, hc⟩
  | (i, v) :: rest, parts', cs, cs', r, h, hc, hp => by
    cases parts' with
    | nil => exact hp.elim
    | cons b rest' =>
      obtain ⟨i', v'⟩ := b
      obtain ⟨e1, hv, hp⟩ := hp
      simp only at e1 hv
      subst e1
      simp only [fillA, Option.bind_eq_bind, Option.bind_eq_some_iff] at h
      obtain ⟨⟨off, size⟩, h1, h⟩ := h
      split at h
      case isFalse => cases h
      case isTrue hb =>
        simp only [Bool.and_eq_true, decide_eq_true_eq, Nat.ble_eq] at hb
        obtain ⟨⟨hb0, hb1⟩, hb2⟩ := hb
        have hvl := VR.cells_size hv hat hb0
        have el := hvl.1
        have ec := hc.1
        have hs : v'.cells.size = size := by simp at el hb1; omega
        have hbb : off + 0 + v'.cells.toList.length ≤ cs'.toArray.size := by simp; omega
        have hput := foldl_put off v'.cells.toList 0 cs'.toArray hbb
        have hnew : VL μ (cs.take off ++ v.cells.toList ++ cs.drop (off + size)) (cs'.take off ++ v'.cells.toList ++ cs'.drop (off + size)) :=
          ((hc.take off).append hvl).append (hc.drop (off + size))
        obtain ⟨r', f1, f2⟩ := fill_ok hat rest rest' _ _ r h hnew hp
        refine ⟨r', ?_, f2⟩
        simp only [Instr.fill, h1]
        rw [if_neg (by simp [hs]; omega)]
        rw [← f1]
        congr 1
        rw [← Array.foldl_toList, Array.toList_zipIdx]
        rw [hput]
        simp [putCells, hs]

include T
theorem places_ok : ∀ (l : List Field) (r : List (Nat × Nat)), placesA E l = some r → (l.mapM (fun f => do pure (f.offset, ← sizeOf f.type)) : Sem (List (Nat × Nat))).run P w = .ok r w
  | [], r, h => by simp [placesA] at h; subst h; simp
  | f :: l, r, h => by
    simp only [placesA, Option.bind_eq_bind, Option.bind_eq_some_iff] at h
    obtain ⟨s, hs, r', hr, h⟩ := h
    cases h
    have ih := places_ok l r' hr
    simp only [List.mapM_cons, Sem.run_bind, T.run_size hs, Result.andThen_ok, Sem.run_pure]
    rw [ih]; rfl

theorem build_ok (hr : HR B W0 μ H w) {t : TypeId} {parts parts' : List (Nat × Value)} {v : Value} (h : buildA E t parts = some v) (hp : PL μ parts parts') : RdOk P μ w (Instr.build t parts'.toArray) v := by
  simp only [buildA, Option.bind_eq_bind, Option.bind_eq_some_iff] at h
  obtain ⟨z, hz, d, hd, h⟩ := h
  have hzl := VR.self_cells (T.zeroVR hz) μ
  split at h
  · rename_i fs
    simp only [Option.bind_eq_some_iff] at h
    obtain ⟨places, hpl, cs, hcs, h⟩ := h
    cases h
    obtain ⟨r', f1, f2⟩ := fill_ok hr.atoms parts parts' _ _ cs hcs hzl hp
    refine ⟨.agg r'.toArray, ?_, .agg _ _ (f2.toArray).1 (f2.toArray).2⟩
    have hm := places_ok T (w := w) fs.toList places hpl
    simp only [Instr.build, Sem.run_bind, T.run_zero hz, Result.andThen_ok, T.run_und hd]
    rw [Array.mapM_eq_mapM_toList]
    simp only [Sem.run_map, Sem.run_bind, hm, Result.andThen_ok]
    simp only [Array.toArray_toList] at f1
    simp [f1]
  · rename_i n e
    simp only [Option.bind_eq_some_iff] at h
    obtain ⟨s, hs, cs, hcs, h⟩ := h
    cases h
    obtain ⟨r', f1, f2⟩ := fill_ok hr.atoms parts parts' _ _ cs hcs hzl hp
    refine ⟨.agg r'.toArray, ?_, .agg _ _ (f2.toArray).1 (f2.toArray).2⟩
    simp only [Array.toArray_toList] at f1
    simp only [Instr.build, Sem.run_bind, T.run_zero hz, Result.andThen_ok, T.run_und hd, T.run_size hs]
    simp [f1]
  · cases h

omit T in
theorem range_zeros {z : Value} {n s : Nat} (hs : z.cells.size = s) : (Array.range (n * s)).map (fun i => z.cells[i % z.cells.size]!) = (zerosA z n).toArray := by
  rw [← hs]; exact zeroCells_eq z n

theorem buildSlice_run (hat : ∀ k x, μ.at_ k = some x → x.oneCell' = true) {t : TypeId} {len : Nat} {parts parts' : List (Nat × Value)} {v : Value} (h : buildSliceA E H t len parts = some (v, H')) (hp : PL μ parts parts') :
    ∃ cs e s r', v = .slice (some ⟨H.next, 0, none⟩) len len ∧ H' = H.add (.row ⟨cs, len * s, e, s, false, false, false⟩) ∧ VL μ cs r' ∧ cs.length = len * s ∧
      ∀ w, (Instr.buildSlice t len parts'.toArray).run P w = .ok (.slice (some ⟨w.heap.size, 0, none⟩) len len) { w with heap := w.heap.push (.cells r'.toArray e) } := by
  simp only [buildSliceA, Option.bind_eq_bind, Option.bind_eq_some_iff] at h
  obtain ⟨d, hd, h⟩ := h
  split at h
  case h_2 => cases h
  case h_1 e =>
  simp only [Option.bind_eq_some_iff] at h
  obtain ⟨s, hs, z, hz, h⟩ := h
  split at h
  case isFalse => cases h
  case isTrue hc =>
  simp only [Bool.and_eq_true, decide_eq_true_eq] at hc
  obtain ⟨hc1, hc2⟩ := hc
  simp only [Option.bind_eq_some_iff] at h
  obtain ⟨cs, hcs, h⟩ := h
  cases h
  obtain ⟨r', f1, f2⟩ := fill_ok hat parts parts' _ _ cs hcs (VL_zeros (T.zeroVR hz) len) hp
  have hlen : cs.length = len * s := by
    have : ∀ (place : Nat → Option (Nat × Nat)) (ps : List (Nat × Value)) (c r : List Value), fillA place c ps = some r → r.length = c.length := by
      intro place ps
      induction ps with
      | nil => intro c r h; simp only [fillA, Option.some.injEq] at h; rw [h]
      | cons p ps ih =>
        intro c r h
        obtain ⟨i, v⟩ := p
        simp only [fillA, Option.bind_eq_bind, Option.bind_eq_some_iff] at h
        obtain ⟨⟨off, size⟩, _, h⟩ := h
        split at h
        case isFalse => cases h
        case isTrue hb =>
          simp only [Bool.and_eq_true, decide_eq_true_eq, Nat.ble_eq] at hb
          rw [ih _ _ h]
          simp only [List.length_append, List.length_take, List.length_drop]
          omega
    rw [this _ _ _ _ hcs, zerosA_length, hc2]
  refine ⟨cs, e, s, r', rfl, rfl, f2, hlen, fun w => ?_⟩
  have h24 : ¬ (len * s > 2 ^ 24) := by omega
  have hcell : (Array.range (len * s)).map (fun i => z.cells[i % z.cells.size]!) = (zerosA z len).toArray := range_zeros hc2
  have fin : ∀ zc : Array Value, (Array.range (len * s)).map (fun i => zc[i % zc.size]!) = (zerosA z len).toArray →
      ((do
        let some cells := Instr.fill (fun i => some (i * s, s)) ((Array.range (len * s)).map (fun i => zc[i % zc.size]!)) parts'.toArray.toList
          | stuck "buildSlice: a part of the wrong size"
        pure (.slice (some (← newRow e cells)) len len) : Sem Value)).run P w = .ok (.slice (some ⟨w.heap.size, 0, none⟩) len len) { w with heap := w.heap.push (.cells r'.toArray e) } := by
    intro zc hzc
    rw [hzc]
    simp only [f1]
    simp [newRow]
  simp only [Instr.buildSlice, Sem.run_bind, T.run_und hd, Result.andThen_ok, T.run_size hs, if_neg h24, Sem.run_pure]
  by_cases h00 : len * s = 0
  · rw [if_pos h00]
    refine fin #[] ?_
    rw [h00]
    have : zerosA z len = [] := List.eq_nil_of_length_eq_zero (by rw [zerosA_length, hc2, h00])
    rw [this]; simp
  · rw [if_neg h00]
    simp only [Sem.run_bind, T.run_zero hz, Result.andThen_ok, Sem.run_pure]
    exact fin z.cells hcell

theorem buildSlice_ok (hr : HR B W0 μ H w) {t : TypeId} {len : Nat} {parts parts' : List (Nat × Value)} {v : Value} (h : buildSliceA E H t len parts = some (v, H')) (hp : PL μ parts parts') :
    SOk P B W0 μ w (Instr.buildSlice t len parts'.toArray) v H' := by
  obtain ⟨cs, e, s, r', rfl, rfl, f2, hlen, hrun⟩ := buildSlice_run T (P := P) hr.atoms h hp
  have hle : μ.le (μ.ext H.next ⟨w.heap.size, 0, 0⟩) := Mu.le_ext (hr.fresh _ (Nat.le_refl _))
  have hHR : HR B W0 (μ.ext H.next ⟨w.heap.size, 0, 0⟩) (H.add (.row ⟨cs, len * s, e, s, false, false, false⟩)) { w with heap := w.heap.push (.cells r'.toArray e) } := by
    refine hr.push _ _ 0 0 rfl ⟨r'.toArray, e, (0, 0), by simp, ?_⟩
    have := rowOk_exact (f2.mono hle) e s w.heap.size 0
    rw [hlen] at this
    exact this
  refine ⟨.slice (some ⟨w.heap.size, 0, none⟩) len len, _, _, hrun w, hle, hHR, ?_⟩
  have := VR.slc (μ := μ.ext H.next ⟨w.heap.size, 0, 0⟩) H.next 0 len len ⟨w.heap.size, 0, 0⟩ (Mu.ext_same ..)
  simpa using this

theorem makeSlice_run {t : TypeId} {l c l' c' v : Value} (h : makeSliceA E H t l c = some (v, H')) (hl : VR μ l l') (hc : VR μ c c') :
    ∃ cs e s n m, v = .slice (some ⟨H.next, 0, none⟩) n m ∧ H' = H.add (.row ⟨cs, cs.length, e, s, false, false, false⟩) ∧ (∀ μ : Mu, VL μ cs cs) ∧
      ∀ w, (Instr.makeSlice t l' c').run P w = .ok (.slice (some ⟨w.heap.size, 0, none⟩) n m) { w with heap := w.heap.push (.cells cs.toArray e) } := by
  simp only [makeSliceA, Option.bind_eq_bind, Option.bind_eq_some_iff] at h
  obtain ⟨d, hd, h⟩ := h
  split at h
  case h_2 => cases h
  case h_1 e k1 l k2 c =>
  simp only [Option.bind_eq_some_iff] at h
  obtain ⟨i, hi, z, hz, h⟩ := h
  split at h
  case isFalse => cases h
  case isTrue hcc =>
  obtain ⟨h0, h1, h2, h3, h4⟩ := hcc
  cases h; cases hl; cases hc
  have hzl : (zerosA z c.toNat).length = c.toNat * i.size := by rw [zerosA_length, h4]
  refine ⟨zerosA z c.toNat, e, i.size, l.toNat, c.toNat, rfl, by rw [hzl], fun μ => VL_zeros (T.zero e i z hi hz).1 c.toNat, fun w => ?_⟩
  obtain ⟨info, j1, j2, j3, _⟩ := T.info hi w
  have wl : IntKind.i64.wrap l = l := wrap_small l h0 (by omega)
  have wc : IntKind.i64.wrap c = c := wrap_small c (by omega) (by omega)
  have hcb : ¬ ((i.bytes : Int) * c > 2 ^ 48) := by
    rw [Int.mul_comm]; omega
  have t1 : (decide (c < 0) || decide ((i.bytes : Int) * c > 2 ^ 48)) = false := by
    simp only [Bool.or_eq_false_iff, decide_eq_false_iff_not]
    exact ⟨by omega, hcb⟩
  simp only [Instr.makeSlice, Sem.run_bind, T.run_und hd, Result.andThen_ok, asInt, asIntOf, Sem.run_pure, j1, wl, wc, j3, t1, Bool.false_or]
  rw [if_neg (by simp; omega)]
  simp only [Sem.run_pure, Result.andThen_ok, run_askRoom, T.run_size' hi, Sem.run_bind]
  have fin : ∀ zc : Array Value, (Array.range (c.toNat * i.size)).map (fun i => zc[i % zc.size]!) = (zerosA z c.toNat).toArray →
      ((do
        let a ← newRow e ((Array.range (c.toNat * i.size)).map (fun i => zc[i % zc.size]!))
        pure (.slice (some a) l.toNat c.toNat) : Sem Value)).run P w = .ok (.slice (some ⟨w.heap.size, 0, none⟩) l.toNat c.toNat) { w with heap := w.heap.push (.cells (zerosA z c.toNat).toArray e) } := by
    intro zc hzc
    rw [hzc]
    simp [newRow]
  by_cases h00 : c.toNat * i.size = 0
  · rw [if_pos h00]
    have := fin #[] (by
      rw [h00]
      have : zerosA z c.toNat = [] := List.eq_nil_of_length_eq_zero (by rw [hzl, h00])
      rw [this]; simp)
    simp only [Sem.run_bind, Sem.run_pure, Result.andThen_ok] at this ⊢
    exact this
  · rw [if_neg h00]
    simp only [Sem.run_bind, T.run_zero' hi hz, Result.andThen_ok, Sem.run_pure]
    have := fin z.cells (range_zeros h4)
    simpa only [Sem.run_bind, Sem.run_pure] using this

theorem makeSlice_ok (hr : HR B W0 μ H w) {t : TypeId} {l c l' c' v : Value} (h : makeSliceA E H t l c = some (v, H')) (hl : VR μ l l') (hc : VR μ c c') :
    SOk P B W0 μ w (Instr.makeSlice t l' c') v H' := by
  obtain ⟨cs, e, s, n, m, rfl, rfl, hv, hrun⟩ := makeSlice_run T (P := P) h hl hc
  have hle : μ.le (μ.ext H.next ⟨w.heap.size, 0, 0⟩) := Mu.le_ext (hr.fresh _ (Nat.le_refl _))
  have hHR : HR B W0 (μ.ext H.next ⟨w.heap.size, 0, 0⟩) (H.add (.row ⟨cs, cs.length, e, s, false, false, false⟩)) { w with heap := w.heap.push (.cells cs.toArray e) } :=
    hr.push _ _ 0 0 rfl ⟨cs.toArray, e, (0, 0), by simp, rowOk_exact (hv _) e s w.heap.size 0⟩
  refine ⟨.slice (some ⟨w.heap.size, 0, none⟩) n m, _, _, hrun w, hle, hHR, ?_⟩
  have := VR.slc (μ := μ.ext H.next ⟨w.heap.size, 0, 0⟩) H.next 0 n m ⟨w.heap.size, 0, 0⟩ (Mu.ext_same ..)
  simpa using this

omit T in
theorem makeMap_ok (hr : HR B W0 μ H w) {t : TypeId} : SOk P B W0 μ w (Instr.makeMap t none) (.map (some H.next)) (H.add (.map [] 0)) := by
  have hle : μ.le (μ.ext H.next ⟨w.heap.size, 0, 0⟩) := Mu.le_ext (hr.fresh _ (Nat.le_refl _))
  refine ⟨.map (some w.heap.size), { w with heap := w.heap.push (.map #[] 0) }, _, by simp [Instr.makeMap], hle, ?_, .map H.next ⟨w.heap.size, 0, 0⟩ (Mu.ext_same ..)⟩
  exact hr.push _ _ 0 0 rfl ⟨#[], by simp, rfl, by intro i e e' h; simp at h⟩
end
end Go.Vsx
