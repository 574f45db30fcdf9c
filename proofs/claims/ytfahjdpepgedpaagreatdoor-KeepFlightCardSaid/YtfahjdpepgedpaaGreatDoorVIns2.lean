/- slices.Insert of one element: the executor's rule is right. -/
import Derived.Test.YtfahjdpepgedpaaGreatDoorVCtl2
import Derived.Test.YtfahjdpepgedpaaGreatDoorVIns1
set_option linter.all false
namespace Go.Vsx
open Go Go.Shelf Go.RowKit Go.Lib Go.Proofs
set_option linter.unusedVariables false
set_option linter.unusedSimpArgs false

theorem setCells_row (b : Nat) (e : TypeId) (fr : Nat × Nat) : ∀ (vs : List Value) (o : Nat) (c : Array Value) (w : World), w.heap[b]? = some (.cells c e fr) → o + vs.length ≤ c.size →
    w.setCells b o vs = setRow w b (putCells c o vs) e fr
  | [], o, c, w, h, hl => by
    rw [World.setCells]
    have : putCells c o [] = c := by
      apply Array.ext_getElem?
      intro i
      rw [putCells_get _ _ _ hl]
      split
      · rfl
      · rw [if_neg (by simp; omega)]
    rw [this, setRow_self h]
  | v :: vs, o, c, w, h, hl => by
    have hb := (Array.getElem?_eq_some_iff.1 h).1
    simp only [List.length_cons] at hl
    rw [World.setCells, setCell_row v h, setCells_row b e fr vs (o + 1) (c.setIfInBounds o v) _ (by rw [setRow_heap, if_pos ⟨rfl, hb⟩]) (by simp; omega), setRow_setRow, putCells_cons _ _ _ _ (by simp; omega)]

section
variable {P : Program} {E : Env} (T : TyOk P E) {ρ : Ren}
include T

/-- What is asked of the program's number of slices.Insert. -/
structure InsFn (P : Program) (ρ : Ren) (fn : Func) : Prop where
  hf : P.funcs[ρ.f 22]? = some fn
  hb : fn.body = (Body2.n22 ρ).body
  hnt : fn.ntmps = 95
  hres : fn.results = (Body2.n22 ρ).results
  ov : ∀ (a b : Addr) (la ca lb cb : Nat) (w : World), a.block ≠ b.block → (∃ tA kA, w.shape? a.block = some (tA, kA) ∧ w.frozen? { block := a.block, off := kA } = false) → (∃ tB kB, w.shape? b.block = some (tB, kB) ∧ kB ≠ 0) → w.frozen? a = false →
      (callFunc (ρ.f 29) #[.slice (some a) la ca, .slice (some b) lb cb]).run P w = .ok (.value (.bool false)) w
  ty : ∀ (k : Nat) (i0 : TypeInfo) (z : Value), P.info? (ρ.t 9) = some i0 → i0.size = k → i0.zero = some z → z.cells.size = k → InsTy P ρ k i0 z

omit T in
theorem row_shape {w : World} {b : Nat} {c : Array Value} {e : TypeId} {fr : Nat × Nat} (h : w.heap[b]? = some (.cells c e fr)) : w.shape? b = some (e, c.size) := by
  simp [World.shape?, h]

theorem insert_ok {G : GS} {fn : Func} (F : InsFn P ρ fn) {args : List Value} {H H' : Heap} {v : Value} (hrun : insertSA E H (ρ.t 24) args = some (v, H')) (hT : tyD E (ρ.t 24) = some (.slice (ρ.t 9))) (hB : (tyD E (ρ.t 9)).isSome = true) :
    TCall P G (ρ.f 22) args H v H' := by
  intro B W0 μ w args' hr g hl
  unfold insertSA at hrun
  split at hrun
  case h_2 => cases hrun
  case h_1 s i vx ox sx cx =>
  rw [hT] at hrun
  obtain ⟨s', r1, e1, hs, hl1⟩ := hl.cons_inv
  obtain ⟨i', r2, rfl, hi', hl2⟩ := hl1.cons_inv
  obtain ⟨x', r3, rfl, hx, hl3⟩ := hl2.cons_inv
  obtain rfl := hl3.nil_inv
  cases hi'
  have ha : args' = #[s', .int .i64 i, x'] := Array.toList_inj.1 (by rw [e1])
  subst ha
  clear e1 hl hl1 hl2 hl3
  -- the element
  obtain ⟨px, hpx, cx', rfl⟩ : ∃ px, μ.pl vx = some px ∧ ∃ c', x' = .slice (some ⟨px.blk, px.off + ox, none⟩) 1 c' := by
    cases hx with
    | slc _ _ _ _ p hp => exact ⟨p, hp, _, rfl⟩
    | slo _ _ _ _ p hp => exact ⟨p, hp, _, rfl⟩
  -- the types
  have hD : ∃ ti, E.tt.get (ρ.t 9) = some ti := by
    simp only [tyD, Option.isSome_map] at hB
    exact Option.isSome_iff_exists.1 hB
  obtain ⟨ti, hti⟩ := hD
  obtain ⟨i0, hi0, _, hisz, hibt, hizr, _⟩ := T.tt _ _ hti
  -- the end
  have atEnd : ∀ (base : Option Addr) (n c c' : Nat) (s : Value), s' = .slice base n c' → VR μ s s' → n ≤ c' → (base = none → n = 0 ∧ c' = 0) → (∀ a, base = some a → a.spot = none) → i = n →
      appendA E H (ρ.t 24) (ρ.t 24) s (.slice (some ⟨vx, ox, sx⟩) 1 cx) = some (v, H') → Calls P (ρ.f 22) #[s', .int .i64 i, .slice (some ⟨px.blk, px.off + ox, none⟩) 1 cx'] w fun e w' => ∃ μ' v', e = .returned v' ∧ μ.le μ' ∧ HR B W0 μ' H' w' ∧ VR μ' v v' := by
    intro base n c c' s hs' hvs hnc hnil hsp hin happ
    obtain ⟨v', w', μ', a1, a2, a3, a4⟩ := append_ok (P := P) (ts := #[ρ.t 24, ρ.t 24]) (ty := ρ.t 24) T hr happ hvs hx rfl rfl (fun a e => by cases e)
    subst hs' hin
    -- zero's facts: those of the append's own
    have hz : ∃ z, i0.zero = some z ∧ z.cells.size = i0.size := by
      have : ∃ z, ti.zero = some z := by
        simp only [appendA, hT, Option.bind_eq_bind, Option.bind_some, Option.bind_eq_some_iff] at happ
        obtain ⟨ti', hti', happ⟩ := happ
        rw [hti] at hti'; cases hti'
        cases hzz : ti.zero with
        | some z => exact ⟨z, rfl⟩
        | none =>
          exfalso
          simp [hzz] at happ
      obtain ⟨z, hz⟩ := this
      exact ⟨z, hizr.trans hz, by rw [(T.zero _ _ z hti hz).2.1, hisz]⟩
    obtain ⟨z, hz1, hz2⟩ := hz
    refine (ins_end (F.ty i0.size i0 z hi0 rfl hz1 hz2) F.hf F.hb F.hnt F.hres base n c' px.blk (px.off + ox) cx' w hnc hnil hsp a1).mono ?_
    rintro e w2 ⟨rfl, rfl⟩
    exact ⟨μ', v', rfl, a2, a3, a4⟩
  split at hrun
  · rename_i n c hT'
    cases hT'
    split at hrun
    case isFalse => cases hrun
    case isTrue hc =>
    obtain ⟨h1, h2, h3⟩ := hc
    have hs2 := hs
    cases hs
    exact atEnd none n c c _ rfl hs2 (by omega) (fun _ => ⟨h2, h3⟩) (fun a h => by cases h) h1 hrun
  case h_3 => cases hrun
  rename_i e0 v0 o sp n c hT'
  cases hT'
  split at hrun
  · rename_i hc
    obtain ⟨h1, h2⟩ := hc
    have : ∃ (b : Nat × Nat) (c' : Nat), s' = .slice (some ⟨b.1, b.2, none⟩) n c' ∧ n ≤ c' := by
      have hs2 := hs
      cases hs with
      | slc _ _ _ _ p hp => exact ⟨(p.blk, p.off + o), _, rfl, h2⟩
      | slo _ _ _ _ p hp => exact ⟨(p.blk, p.off + o), _, rfl, by omega⟩
      | slcE _ _ q p hp => exact ⟨(p.blk, q), _, rfl, by omega⟩
      | sloE _ _ q p hp => exact ⟨(p.blk, q), _, rfl, by omega⟩
    obtain ⟨b, c', rfl, hnc⟩ := this
    exact atEnd _ n c c' _ rfl hs hnc (fun h => by cases h) (fun a h => by cases h; rfl) h1 hrun
  split at hrun
  case isFalse => cases hrun
  case isTrue hc =>
  obtain ⟨hi0', hin, hnc, rfl⟩ := hc
  rw [hti] at hrun
  simp only [Option.bind_eq_bind, Option.bind_some, Option.bind_eq_some_iff] at hrun
  obtain ⟨new, hnew, cs, hcs, r, hrow, rx, hrowx, hrun⟩ := hrun
  split at hrun
  · cases hrun
  rename_i hcond
  cases hrun
  simp only [Bool.or_eq_true, Bool.not_eq_true', not_or, Bool.not_eq_true, bne_eq_false_iff_eq, Bool.not_eq_false', Bool.not_eq_false, beq_eq_false_iff_ne, Bool.and_eq_true, Nat.ble_eq, Option.isNone_eq_false_iff, List.all_eq_true] at hcond
  obtain ⟨⟨⟨⟨⟨⟨⟨⟨⟨⟨⟨⟨hro, hopn⟩, hfz⟩, hesz⟩, helem⟩, hlb⟩, hrox⟩, hfzx⟩, hne⟩, hone⟩, hcone⟩, hzn⟩, ⟨hsz1, hby1⟩, hby2⟩ := hcond
  obtain ⟨p, hp, rfl⟩ : ∃ p, μ.pl v0 = some p ∧ s' = .slice (some ⟨p.blk, p.off + o, none⟩) n (c + p.ex) := by
    cases hs with
    | slo _ _ _ _ p hp => exact ⟨p, hp, rfl⟩
    | sloE _ _ q p hp => exfalso; simp at hin; omega
  obtain ⟨j, rfl⟩ : ∃ j : Nat, i = (j : Int) := ⟨i.toNat, by omega⟩
  have hjn : j < n := by omega
  simp only [Int.toNat_natCast]
  clear atEnd
  obtain ⟨z, hz⟩ := Option.isSome_iff_exists.1 hzn
  obtain ⟨_, hzs, _⟩ := T.zero _ _ z hti hz
  have L := F.ty ti.size i0 z hi0 hisz (hizr.trans hz) hzs
  -- the two rows
  obtain ⟨p0, cc, e1, fr, pa, hb, k1, k2⟩ := hr.row hrow
  rw [hp] at pa; cases pa
  obtain ⟨he, hcl, hszr, hfr, hfz', _⟩ := k2 hro
  obtain rfl := hfz' hfz
  obtain ⟨q0, xx, e2, frx, qa, hbx, l1, l2⟩ := hr.row hrowx
  rw [hpx] at qa; cases qa
  obtain ⟨hex, hclx, hszx, hfrx, hfzx', _⟩ := l2 hrox
  obtain rfl := hfzx' hfzx
  simp only [hopn, if_true, hesz] at hszr
  obtain ⟨cs', r1, r2, r3⟩ := hr.rd hcs hp
  obtain ⟨new', n1, n2, n3⟩ := hr.rd hnew hpx
  have hcs'l : cs'.length = n * ti.size := by rw [← r2.1]; exact r1
  have hnew'l : new'.length = ti.size := by rw [← n2.1]; exact n1
  have hone' : ∀ x ∈ new', x.oneCell' = true := n2.one hr.atoms hone
  have hcone' : ∀ x ∈ cs', x.oneCell' = true := r2.one hr.atoms hcone
  have own0 : (AObj.row r).own = true := by simp [AObj.own, hro]
  have ownx : (AObj.row rx).own = true := by simp [AObj.own, hrox]
  have hblk : px.blk ≠ p.blk := fun e => hne (hr.inj vx v0 _ _ px p (Heap.row_eq hrowx) (Heap.row_eq hrow) ownx own0 hpx hp e)
  have hbw := (Array.getElem?_eq_some_iff.1 hb).1
  have hbxw := (Array.getElem?_eq_some_iff.1 hbx).1
  have hBp : B ≤ p.blk := by
    obtain ⟨q, q1, _, q3, _⟩ := hr.obj v0 _ (Heap.row_eq hrow)
    rw [hp] at q1; cases q1
    exact q3 own0
  have cellOf : ∀ j x, cs'[j]? = some x → w.cell? ⟨p.blk, p.off + o + j, none⟩ = some x := fun j x h => by
    have := r3 j x h; rwa [Addr.add_none] at this
  have cellNew : ∀ j x, new'[j]? = some x → w.cell? ⟨px.blk, px.off + ox + j, none⟩ = some x := fun j x h => by
    have := n3 j x h; rwa [Addr.add_none] at this
  have hn40 : n ≤ 1099511627776 := by
    have : (n + 1) * 1 ≤ (n + 1) * ti.bytes := Nat.mul_le_mul_left _ hby1
    have : (2 : Nat) ^ 40 = 1099511627776 := by decide
    omega
  have hmul : (n + 1) * ti.size = n * ti.size + ti.size := by rw [Nat.add_mul, Nat.one_mul]
  have hjmul : (j + 1) * ti.size = j * ti.size + ti.size := by rw [Nat.add_mul, Nat.one_mul]
  have hjle : (j + 1) * ti.size ≤ n * ti.size := Nat.mul_le_mul_right _ (by omega)
  have hcsl : cs.length = n * ti.size := r1
  have hnl : new.length = ti.size := n1
  -- the new row's cells
  have hnewrow : ∀ (F0 : Array Value) (base : Nat), (∀ t, t < (n + 1) * ti.size → F0[base + t]? = ((cs'.take (j * ti.size)) ++ new' ++ cs'.drop (j * ti.size))[t]?) →
      ∀ t v, (cs.take (j * ti.size) ++ new ++ cs.drop (j * ti.size))[t]? = some v → ∃ v', F0[base + t]? = some v' ∧ VR μ v v' := by
    intro F0 base hF t v ht
    have hVL : VL μ (cs.take (j * ti.size) ++ new ++ cs.drop (j * ti.size)) ((cs'.take (j * ti.size)) ++ new' ++ cs'.drop (j * ti.size)) := ((r2.take _).append n2).append (r2.drop _)
    obtain ⟨v', a1, a2⟩ := hVL.getElem? ht
    refine ⟨v', ?_, a2⟩
    rw [hF t]
    · exact a1
    · have := (List.getElem?_eq_some_iff.1 ht).1
      simp only [List.length_append, List.length_take, List.length_drop] at this
      omega
  have hlen3 : (cs.take (j * ti.size) ++ new ++ cs.drop (j * ti.size)).length = (n + 1) * ti.size := by
    simp only [List.length_append, List.length_take, List.length_drop]; omega
  by_cases hroom : n + 1 ≤ c + p.ex
  · -- in place
    have hcap : (n + 1) * ti.size ≤ (c + p.ex) * ti.size := Nat.mul_le_mul_right _ hroom
    have hfit : p.off + o + (c + p.ex) * ti.size ≤ cc.size := by rw [Nat.add_mul]; omega
    have cellAt : ∀ t, t < (n + 1) * ti.size → w.cell? ⟨p.blk, p.off + o + t, none⟩ = some cc[p.off + o + t]! := by
      intro t ht
      rw [cell?_of_block hb]
      have : p.off + o + t < cc.size := by omega
      simp [this]
    refine (ins_shift L F.hf (fo := fn) F.hb F.hnt F.hres F.ov p.blk (p.off + o) n (c + p.ex) j px.blk (px.off + ox) cx' cs' new' w hjn hroom hn40 hblk hcs'l hnew'l cellOf
      (fun t ht => by rw [cellAt t ht]; rfl) (fun t _ => by rw [frozen?_of_block hb]; simp) cellNew hcone' hone' e2 e1 xx.size cc.size (row_shape hbx) (row_shape hb) (by omega)
      (by rw [frozen?_of_block hbx]; simp) (by rw [frozen?_of_block hbx]; simp)).mono ?_
    rintro e w2 ⟨rfl, rfl⟩
    have hb' : w.drew.heap[p.blk]? = some (.cells cc e1 (0, 0)) := hb
    have l1' : p.off + o + (j + 1) * ti.size + (cs'.drop (j * ti.size)).length ≤ cc.size := by rw [List.length_drop]; omega
    have hw1 := setCells_row p.blk e1 (0, 0) (cs'.drop (j * ti.size)) (p.off + o + (j + 1) * ti.size) cc w.drew hb' l1'
    have hsz1' := putCells_size cc (p.off + o + (j + 1) * ti.size) (cs'.drop (j * ti.size)) l1'
    have l2' : p.off + o + j * ti.size + new'.length ≤ (putCells cc (p.off + o + (j + 1) * ti.size) (cs'.drop (j * ti.size))).size := by rw [hsz1', hnew'l]; omega
    have hb2 : (setRow w.drew p.blk (putCells cc (p.off + o + (j + 1) * ti.size) (cs'.drop (j * ti.size))) e1 (0, 0)).heap[p.blk]? = some (.cells (putCells cc (p.off + o + (j + 1) * ti.size) (cs'.drop (j * ti.size))) e1 (0, 0)) := by
      rw [setRow_heap, if_pos ⟨rfl, hbw⟩]
    have hw2 := setCells_row p.blk e1 (0, 0) new' (p.off + o + j * ti.size) _ _ hb2 l2'
    rw [hw1, hw2, setRow_setRow]
    have hle : μ.le (μ.ext H.next ⟨p.blk, p.off + o, c + p.ex - (n + 1)⟩) := Mu.le_ext (hr.fresh _ (Nat.le_refl _))
    have hk := (hr.drawn (w.drawn + 1)).kill v0
    generalize hFdef : putCells (putCells cc (p.off + o + (j + 1) * ti.size) (cs'.drop (j * ti.size))) (p.off + o + j * ti.size) new' = F0
    have hF0s : F0.size = cc.size := by rw [← hFdef, putCells_size _ _ _ l2', hsz1']
    have hF0 : ∀ t, t < (n + 1) * ti.size → F0[p.off + o + t]? = ((cs'.take (j * ti.size)) ++ new' ++ cs'.drop (j * ti.size))[t]? := by
      intro t ht
      rw [← hFdef, putCells_get _ _ _ l2', putCells_get _ _ _ l1', List.getElem?_append, List.getElem?_append]
      simp only [List.length_append, List.length_take]
      have em : min (j * ti.size) cs'.length = j * ti.size := by omega
      rw [em, hnew'l]
      by_cases h1 : t < j * ti.size
      · rw [if_pos (by omega), if_pos (by omega), if_pos (by omega), if_pos h1, List.getElem?_take, if_pos h1]
        have := cellOf t cs'[t] (List.getElem?_eq_getElem (by omega))
        rw [cell?_of_block hb] at this
        rw [this]; exact (List.getElem?_eq_getElem (by omega)).symm
      · by_cases h2 : t < j * ti.size + ti.size
        · rw [if_neg (by omega), if_pos (by omega), if_pos (by omega), if_neg h1]
          congr 1; omega
        · rw [if_neg (by omega), if_neg (by omega), if_neg (by omega), if_pos (by rw [List.length_drop]; omega), if_neg (by omega), List.getElem?_drop, List.getElem?_drop]
          congr 1; omega
    refine ⟨_, .slice (some ⟨p.blk, p.off + o, none⟩) (n + 1) (c + p.ex), rfl, hle, ?_, ?_⟩
    · refine hk.add (w' := setRow w.drew p.blk F0 e1 (0, 0)) (.row ⟨cs.take (j * ti.size) ++ new ++ cs.drop (j * ti.size), (n + 1) * ti.size, ρ.t 9, ti.size, false, true, false⟩) ⟨p.blk, p.off + o, c + p.ex - (n + 1)⟩ ?_ ?_ hBp rfl ?_ ?_ ?_ ?_
      · exact ⟨rfl, rfl, rfl, by rw [setRow_size]; exact Nat.le_refl _, fun k hk => by rw [setRow_heap, if_neg (by omega)]; rfl⟩
      · rw [setRow_size]; exact Nat.le_refl _
      · intro u o' q hu hq ho' hbq
        rw [Heap.get_kill] at hu
        split at hu
        · cases hu
        · rename_i hnu
          exact hnu (hr.inj u v0 o' _ q p hu (Heap.row_eq hrow) ho' own0 hq hp hbq)
      · intro k hk _
        rw [setRow_heap, if_neg (fun hh => hk hh.1)]; rfl
      · exact hr.aprt v0 _ p (Heap.row_eq hrow) own0 hp
      · refine ⟨F0, e1, (0, 0), by rw [setRow_heap, if_pos ⟨rfl, hbw⟩], ?_, fun _ => ⟨he.trans helem, by simp only [hlen3]; exact Nat.le_refl _, ?_, .inl rfl, fun _ => rfl, fun h => by cases h⟩⟩
        · intro t v ht
          obtain ⟨v', a1, a2⟩ := hnewrow F0 (p.off + o) hF0 t v ht
          exact ⟨v', a1, a2.mono hle⟩
        · simp only [if_true, hF0s]
          have : (n + 1) * ti.size + (c + p.ex - (n + 1)) * ti.size = (c + p.ex) * ti.size := by rw [← Nat.add_mul]; congr 1; omega
          omega
    · have := VR.slo (μ := μ.ext H.next ⟨p.blk, p.off + o, c + p.ex - (n + 1)⟩) H.next 0 (n + 1) (n + 1) ⟨p.blk, p.off + o, c + p.ex - (n + 1)⟩ (Mu.ext_same ..)
      have e3 : n + 1 + (c + p.ex - (n + 1)) = c + p.ex := by omega
      simpa [e3] using this
  · -- a new row
    have hby2' : (n + 1) * i0.bytes ≤ 140737488355328 := by
      have : (2 : Nat) ^ 40 ≤ 140737488355328 := by decide
      rw [hibt]; omega
    refine (ins_grow L F.hf F.hb F.hnt F.hres hsz1 p.blk (p.off + o) n (c + p.ex) j px.blk (px.off + ox) cx' cs' new' w hjn (by omega) (by omega) hby2' (by omega) hbw hbxw (by rw [hibt]; omega) hcs'l hnew'l cellOf cellNew hcone' hone').mono ?_
    rintro e w2 ⟨rfl, rfl⟩
    generalize hGd : grownCap w (n + 1) (c + p.ex) (ρ.t 9) = Gc
    have hGn : n + 1 ≤ Gc := by rw [← hGd]; exact grownCap_ge w _ _ _
    generalize hRd : (cs'.take (j * ti.size)).toArray ++ Builtin.zeroCells z.cells (n + 1 - j) ++ Builtin.zeroCells z.cells (Gc - (n + 1)) = ROW
    have hRs : ROW.size = Gc * ti.size := by
      rw [← hRd]
      simp only [Array.size_append, List.size_toArray, List.length_take, size_zeroCells, hzs]
      have e4 : (n + 1 - j) * ti.size = (n + 1) * ti.size - j * ti.size := Nat.sub_mul _ _ _
      have e5 : (Gc - (n + 1)) * ti.size = Gc * ti.size - (n + 1) * ti.size := Nat.sub_mul _ _ _
      have e6 : (n + 1) * ti.size ≤ Gc * ti.size := Nat.mul_le_mul_right _ hGn
      omega
    have hGs : (n + 1) * ti.size ≤ Gc * ti.size := Nat.mul_le_mul_right _ hGn
    have hR0 : ∀ t, t < j * ti.size → ROW[t]? = cs'[t]? := by
      intro t ht
      rw [← hRd, Array.getElem?_append_left (by simp; omega), Array.getElem?_append_left (by simp; omega)]
      simp [List.getElem?_take, ht]
    have hh0 : (w.alloc (.cells ROW (ρ.t 9))).drew.heap[w.heap.size]? = some (.cells ROW (ρ.t 9) (0, 0)) := by
      show (w.heap.push _)[_]? = _; simp
    have l1' : j * ti.size + new'.length ≤ ROW.size := by rw [hRs, hnew'l]; omega
    have hw1 := setCells_row w.heap.size (ρ.t 9) (0, 0) new' (j * ti.size) ROW _ hh0 l1'
    have hs1 := putCells_size ROW (j * ti.size) new' l1'
    have l2' : (j + 1) * ti.size + (cs'.drop (j * ti.size)).length ≤ (putCells ROW (j * ti.size) new').size := by rw [hs1, hRs, List.length_drop]; omega
    rw [hw1]
    have hh1 : (setRow (w.alloc (.cells ROW (ρ.t 9))).drew w.heap.size (putCells ROW (j * ti.size) new') (ρ.t 9) (0, 0)).drew.heap[w.heap.size]? = some (.cells (putCells ROW (j * ti.size) new') (ρ.t 9) (0, 0)) := by
      show (setRow _ _ _ _ _).heap[_]? = _
      rw [setRow_heap, if_pos ⟨rfl, by show _ < (w.heap.push _).size; simp⟩]
    have hw2 := setCells_row w.heap.size (ρ.t 9) (0, 0) (cs'.drop (j * ti.size)) ((j + 1) * ti.size) _ _ hh1 l2'
    rw [hw2]
    generalize hFdef : putCells (putCells ROW (j * ti.size) new') ((j + 1) * ti.size) (cs'.drop (j * ti.size)) = F0
    have hF0s : F0.size = Gc * ti.size := by rw [← hFdef, putCells_size _ _ _ l2', hs1, hRs]
    have hF0 : ∀ t, t < (n + 1) * ti.size → F0[0 + t]? = ((cs'.take (j * ti.size)) ++ new' ++ cs'.drop (j * ti.size))[t]? := by
      intro t ht
      rw [Nat.zero_add, ← hFdef, putCells_get _ _ _ l2', putCells_get _ _ _ l1', List.getElem?_append, List.getElem?_append]
      simp only [List.length_append, List.length_take]
      have em : min (j * ti.size) cs'.length = j * ti.size := by omega
      rw [em, hnew'l]
      by_cases h1 : t < j * ti.size
      · rw [if_pos (by omega), if_pos (by omega), if_pos (by omega), if_pos h1, List.getElem?_take, if_pos h1, hR0 t h1]
      · by_cases h2 : t < j * ti.size + ti.size
        · rw [if_pos (by omega), if_neg (by omega), if_pos (by omega), if_pos (by omega), if_neg h1]
        · rw [if_neg (by omega), if_pos (by rw [List.length_drop]; omega), if_neg (by omega), List.getElem?_drop, List.getElem?_drop]
          congr 1; omega
    have hworld : setRow (setRow (w.alloc (.cells ROW (ρ.t 9))).drew w.heap.size (putCells ROW (j * ti.size) new') (ρ.t 9) (0, 0)).drew w.heap.size F0 (ρ.t 9) (0, 0) = { ({ w with drawn := w.drawn + 2 } : World) with heap := w.heap.push (.cells F0 (ρ.t 9) (0, 0)) } := by
      simp only [setRow, World.drew, World.alloc]
      congr 1
      apply Array.ext_getElem?
      intro k
      simp only [Array.getElem?_setIfInBounds, Array.size_setIfInBounds, Array.size_push, Array.getElem?_push]
      by_cases hk : w.heap.size = k
      · subst hk; simp
      · simp [hk, Ne.symm hk]
    rw [hworld]
    have hk := (hr.drawn (w.drawn + 2)).kill v0
    have hpush := hk.pushOpen (⟨cs.take (j * ti.size) ++ new ++ cs.drop (j * ti.size), (n + 1) * ti.size, ρ.t 9, ti.size, false, true, false⟩ : Row) F0 (0, 0) (Gc - (n + 1)) rfl rfl
      (fun t v ht => by
        obtain ⟨v', a1, a2⟩ := hnewrow F0 0 hF0 t v ht
        exact ⟨v', by simpa using a1, a2⟩)
      (by simp only [hlen3]; exact Nat.le_refl _)
      (by
        simp only [hF0s]
        have : (n + 1) * ti.size + (Gc - (n + 1)) * ti.size = Gc * ti.size := by rw [← Nat.add_mul]; congr 1; omega
        omega) (.inl rfl) (fun _ => rfl)
    refine ⟨_, .slice (some ⟨w.heap.size, 0, none⟩) (n + 1) Gc, rfl, Mu.le_ext (hr.fresh _ (Nat.le_refl _)), hpush, ?_⟩
    have := VR.slo (μ := μ.ext H.next ⟨w.heap.size, 0, Gc - (n + 1)⟩) H.next 0 (n + 1) (n + 1) ⟨w.heap.size, 0, Gc - (n + 1)⟩ (Mu.ext_same ..)
    have e3 : n + 1 + (Gc - (n + 1)) = Gc := by omega
    simpa [e3] using this
end
theorem ov_of {P : Program} {f : FuncId} {fn : Func} (hf : P.funcs[f]? = some fn) (hn : (fn.name == "runtime.NumGoroutine") = false) (hb : fn.body.isNone = true) (hx : Extern.findNext fn = none) {tS tR e : TypeId}
    (he : Extern.find fn = some (Extern.SlicesOverlaps.overlaps #[tS, tS] #[tR])) (ht : P.underlying tS = some (.slice e)) {size : Nat} (hz : ∀ w, (Go.sizeOf e).run P w = .ok size w) :
    ∀ (a b : Addr) (la ca lb cb : Nat) (w : World), a.block ≠ b.block → (∃ tA kA, w.shape? a.block = some (tA, kA) ∧ w.frozen? { block := a.block, off := kA } = false) → (∃ tB kB, w.shape? b.block = some (tB, kB) ∧ kB ≠ 0) → w.frozen? a = false →
      (callFunc f #[.slice (some a) la ca, .slice (some b) lb cb]).run P w = .ok (.value (.bool false)) w := by
  intro a b la ca lb cb w hne ⟨tA, kA, hsa, hfe⟩ ⟨tB, kB, hsb, hkB⟩ hfa
  rw [run_callFunc_extern hf hn hb hx he, Lib.run_overlaps_apart w tS tR e ht size hz a b la ca lb cb hne tA tB kA kB hsa hsb hkB hfa hfe]
  rfl
end Go.Vsx
