/- slices.Sorted over maps.Keys of a map with string keys: the executor's rule is right (over the shelf's contracts). -/
import Derived.Test.YtfahjdpepgedpaaGreatDoorVCtl2
import Derived.Shelf.SlIter.Nil
import Derived.Shelf.SlIter.Sorted
import Derived.Shelf.SortM.Plain
import Derived.Shelf.SortM.SortNone
import Derived.Sort.KeysCollected
import Derived.StringKeys
set_option linter.all false
namespace Go.Vsx
open Go Go.RowKit Go.Maps Go.Sort Go.Shelf Go.Proofs Go.WideElems Go.WideShapes Go.WideMaps
set_option linter.unusedVariables false

theorem compare_lt : ∀ (a b : List UInt8), Lib.compareBytes a b = -1 → a ≤ b ∧ a ≠ b
  | [], [], h => by simp [Lib.compareBytes] at h
  | [], y :: b, _ => ⟨by simp, by simp⟩
  | x :: a, [], h => by simp [Lib.compareBytes] at h
  | x :: a, y :: b, h => by
    simp only [Lib.compareBytes] at h
    split at h
    · rename_i hlt
      refine ⟨List.cons_le_cons_iff.2 (.inl hlt), fun e => ?_⟩
      injection e with e1 e2
      subst e1
      exact absurd hlt (by simp)
    · rename_i hlt
      split at h
      · cases h
      · rename_i hgt
        obtain ⟨h1, h2⟩ := compare_lt a b h
        have hxy : x = y := UInt8.le_antisymm (UInt8.not_lt.1 hgt) (UInt8.not_lt.1 hlt)
        exact ⟨List.cons_le_cons_iff.2 (.inr ⟨hxy, h1⟩), fun e => by injection e with e1 e2; exact h2 e2⟩

theorem insStr_perm (s : ByteArray) : ∀ l, (insStr s l).Perm (s :: l)
  | [] => .refl _
  | t :: l => by
    simp only [insStr]
    split
    · exact ((insStr_perm s l).cons t).trans (.swap s t l)
    · exact .refl _
theorem sortStr_perm : ∀ l, (sortStr l).Perm l
  | [] => .refl _
  | s :: l => (insStr_perm s (sortStr l)).trans ((sortStr_perm l).cons s)

theorem rising_pairs : ∀ (l : List ByteArray), risingB l = true → (l.map fun b => b.data.toList).Pairwise (fun a b => a ≤ b ∧ a ≠ b)
  | [], _ => .nil
  | a :: r, h => by
    simp only [risingB, Bool.and_eq_true, List.all_eq_true, beq_iff_eq] at h
    refine List.pairwise_cons.2 ⟨fun b hb => ?_, rising_pairs r h.2⟩
    obtain ⟨x, hx, rfl⟩ := List.mem_map.1 hb
    exact compare_lt _ _ (h.1 x hx)

theorem natsApart_nodup : ∀ (l : List Nat), natsApart l = true → l.Nodup
  | [], _ => List.nodup_nil
  | a :: r, h => by
    simp only [natsApart, Bool.and_eq_true, List.all_eq_true, Bool.not_eq_true'] at h
    refine List.nodup_cons.2 ⟨fun hm => ?_, natsApart_nodup r h.2⟩
    exact Nat.ne_of_beq_eq_false (h.1 a hm) rfl

theorem strKeys_some : ∀ (es : List MapEntry) (ks : List ByteArray), Vsx.strKeys es = some ks → es.map (·.key) = ks.map Value.string
  | [], ks, h => by simp only [Vsx.strKeys, Option.some.injEq] at h; subst h; rfl
  | e :: es, ks, h => by
    simp only [Vsx.strKeys] at h
    split at h
    · rename_i s hs
      simp only [Option.map_eq_some_iff] at h
      obtain ⟨ks', h1, rfl⟩ := h
      simp [hs, strKeys_some es ks' h1]
    · cases h

theorem sorted_perm {H : Type} : ∀ (l : List (Lit × DataW H)), (l.foldr DataW.insert []).Perm l
  | [] => .refl _
  | x :: l => by
    have ins : ∀ (x : Lit × DataW H) (l : List (Lit × DataW H)), (DataW.insert x l).Perm (x :: l) := by
      intro x l
      induction l with
      | nil => exact .refl _
      | cons y r ih =>
        simp only [DataW.insert]
        split
        · exact .refl _
        · exact (ih.cons y).trans (.swap x y r)
    exact (ins x _).trans ((sorted_perm l).cons x)

section
variable {P : Program} {E : Env} (T : TyOk P E) {ρk ρs : Ren}

/-- What is asked of the program's numbers. -/
structure SrtFn (P : Program) (ρk ρs : Ren) : Prop where
  Lk : SlLaysZ.n10 P ρk
  Ls : SlLaysZ.n6 P ρs
  hs : ∀ m, AnyZ.SortsIn P ρs Fence.wide m
  e9 : ∀ args w, (callFunc (ρs.f 9) args).run P w = .ok (.enter (ρs.f 9) args) w
  eg : ∀ args w, (callFunc (ρk.f 10) args).run P w = .ok (.enter (ρk.f 10) args) w
  str : P.underlying (ρk.t 26) = some .string

theorem sorted_ok {G : GS} (F : SrtFn P ρk ρs) {args : List Value} {H H' : Heap} {v : Value} {clos : List FuncId} (hcl : ∀ f, clos.contains f = true → ∀ captured first, args = [.func (.func f) first captured] → f = ρk.f 10)
    (hrun : sortedKeysA H (ρs.t 26) clos args = some (v, H')) : TCall P G (ρs.f 6) args H v H' := by
  intro B W0 μ w args' hr g hl
  unfold sortedKeysA at hrun
  split at hrun
  case h_2 => cases hrun
  case h_1 f first captured =>
  split at hrun
  case h_2 => cases hrun
  case h_1 v0 hc hf hca =>
  have hfe := hcl f hc captured first rfl
  subst hfe
  obtain ⟨x', r1, e1, hx, hl1⟩ := hl.cons_inv
  obtain rfl := hl1.nil_inv
  have ha : args' = #[x'] := Array.toList_inj.1 (by rw [e1])
  subst ha
  clear e1 hl hl1
  obtain ⟨p, hp, rfl⟩ : ∃ p, μ.pl v0 = some p ∧ x' = .func (.func (ρk.f 10)) #[] #[.pointer (some ⟨p.blk, p.off + 0, none⟩)] := by
    cases hx with
    | func _ _ a' _ c' hsa hsc h1 h2 =>
      have ea : a' = #[] := by
        have : first.size = 0 := by rw [← Array.length_toList, hf]; rfl
        exact Array.eq_empty_of_size_eq_zero (by omega)
      have ec : captured = #[.pointer (some ⟨v0, 0, none⟩)] := Array.toList_inj.1 (by rw [hca])
      subst ec
      have hc1 : c'.size = 1 := by rw [← hsc]; rfl
      obtain ⟨y, rfl⟩ : ∃ y, c' = #[y] := by
        obtain ⟨l⟩ := c'
        match l, hc1 with
        | [y], _ => exact ⟨y, rfl⟩
      have := h2 0 _ y rfl rfl
      cases this with
      | ptr _ _ p hp => exact ⟨p, hp, by rw [ea]⟩
  simp only [Option.bind_eq_bind, Option.bind_eq_some_iff] at hrun
  obtain ⟨r, hrow, hrun⟩ := hrun
  split at hrun
  · cases hrun
  rename_i hro
  simp only [Bool.or_eq_true, not_or, Bool.not_eq_true] at hro
  split at hrun
  case h_2 => cases hrun
  case h_1 rm rest hcs =>
  split at hrun
  case h_2 => cases hrun
  case h_1 es clock hget =>
  simp only [Option.bind_eq_some_iff] at hrun
  obtain ⟨ks, hks, hrun⟩ := hrun
  split at hrun
  · cases hrun
  rename_i hcond
  simp only [Bool.not_eq_true', Bool.not_eq_false, Bool.and_eq_true, List.all_eq_true, Nat.ble_eq] at hcond
  obtain ⟨⟨⟨⟨hris, hksz⟩, hlen⟩, hborn⟩, hapart⟩ := hcond
  -- the box
  obtain ⟨p0, cc, e1, fr, pa, hb, k1, k2⟩ := hr.row hrow
  rw [hp] at pa; cases pa
  obtain ⟨_, _, _, _, _, hoff⟩ := k2 hro.1
  have hoff := hoff hro.2
  rw [hoff]
  obtain ⟨mv, hm1, hm2⟩ := k1 0 (.map (some rm)) (by rw [hcs]; rfl)
  rw [hoff] at hm1
  obtain ⟨q, hq, rfl⟩ : ∃ q, μ.pl rm = some q ∧ mv = .map (some q.blk) := by
    cases hm2 with
    | map _ q hq => exact ⟨q, hq, rfl⟩
  obtain ⟨q', hq', hOR, _⟩ := hr.obj rm _ hget
  rw [hq] at hq'; cases hq'
  obtain ⟨es', hmb, hel, hME⟩ := hOR
  have hbw := (Array.getElem?_eq_some_iff.1 hb).1
  have hcell : w.cell? ⟨p.blk, 0, none⟩ = some (.map (some q.blk)) := by rw [cell?_of_block hb]; simpa using hm1
  -- the entries
  have hkeys : es'.toList.map (·.key) = ks.map Value.string := by
    rw [← strKeys_some es ks hks]
    apply List.ext_getElem?
    intro i
    rw [List.getElem?_map, List.getElem?_map]
    cases hi : es[i]? with
    | none =>
      have : es'.toList[i]? = none := by rw [List.getElem?_eq_none_iff] at hi ⊢; simpa using (by omega : es'.size ≤ i)
      rw [this]
    | some e =>
      have hlt := (List.getElem?_eq_some_iff.1 hi).1
      have hlt' : i < es'.toList.length := by simpa using (by omega : i < es'.size)
      rw [List.getElem?_eq_getElem hlt']
      have hme := hME i e es'.toList[i] hi (by rw [← Array.getElem?_toList]; exact List.getElem?_eq_getElem hlt')
      have hk : ∃ s, e.key = .string s := by
        have : e.key ∈ ks.map Value.string := by rw [← strKeys_some es ks hks]; exact List.mem_map.2 ⟨e, List.mem_of_getElem? hi, rfl⟩
        obtain ⟨s, _, hs⟩ := List.mem_map.1 this
        exact ⟨s, hs.symm⟩
      obtain ⟨s, hs⟩ := hk
      have h1 := hme.1
      rw [hs] at h1
      cases h1' : es'.toList[i].key with
      | string s' =>
        rw [h1'] at h1; cases h1
        show some (es'.toList[i].key) = some e.key
        rw [h1', hs]
      | _ => rw [h1'] at h1; cases h1
  have hborns : es'.toList.map (·.born) = es.map (·.born) := by
    apply List.ext_getElem?
    intro i
    rw [List.getElem?_map, List.getElem?_map]
    cases hi : es[i]? with
    | none =>
      have : es'.toList[i]? = none := by rw [List.getElem?_eq_none_iff] at hi ⊢; simpa using (by omega : es'.size ≤ i)
      rw [this]
    | some e =>
      have hlt := (List.getElem?_eq_some_iff.1 hi).1
      have hlt' : i < es'.toList.length := by simpa using (by omega : i < es'.size)
      rw [List.getElem?_eq_getElem hlt']
      have hme := hME i e es'.toList[i] hi (by rw [← Array.getElem?_toList]; exact List.getElem?_eq_getElem hlt')
      show some (es'.toList[i].born) = some e.born
      rw [hme.2.2]
  have hpw := rising_pairs _ hris
  have hperm := sortStr_perm ks
  have hbnd : (ks.map fun b => b.data.toList).Nodup := by
    have : (ks.map fun b => b.data.toList).Perm ((sortStr ks).map fun b => b.data.toList) := (hperm.map _).symm
    exact this.nodup_iff.2 (hpw.imp fun h => h.2)
  let R : Value → Option (DataW Unit × List MemPlace) := fun _ => some (.lit (.bool true), [])
  have hread : ∀ x ∈ es'.toList, ∃ s : ByteArray, x.key = .string s ∧ s ∈ ks ∧ WideElems.rd P (ρk.t 26) R x = some (.string s.data.toList, .lit (.bool true)) := by
    intro x hx
    have : x.key ∈ ks.map Value.string := by rw [← hkeys]; exact List.mem_map.2 ⟨x, hx, rfl⟩
    obtain ⟨s, hs, hk⟩ := List.mem_map.1 this
    refine ⟨s, hk.symm, hs, ?_⟩
    have hsz : s.size ≤ maxLen := by have := hksz s hs; unfold maxLen; omega
    simp [WideElems.rd, ← hk, keyOf_string_mk F.str hsz, R]
  have hesz : es'.size ≤ 1048576 := by omega
  have hfit : Fit P (ρk.t 26) R es' clock := by
    refine ⟨by unfold maxLen; omega, ⟨?_, ?_, ?_⟩, fun x hx => let ⟨s, _, _, h⟩ := hread x hx; ⟨_, h⟩⟩
    · intro x hx
      have : x.born ∈ es.map (·.born) := by rw [← hborns]; exact List.mem_map.2 ⟨x, hx, rfl⟩
      obtain ⟨e, he, hee⟩ := List.mem_map.1 this
      rw [← hee]
      exact Nat.le_of_ble_eq_true (hborn e he)
    · rw [hborns]; exact natsApart_nodup _ hapart
    · rw [hkeys]
      refine List.pairwise_map.2 ?_
      have := List.pairwise_map.1 hbnd
      exact this.imp fun h e => h (by injection e with e; rw [e])
  let D0 : DataW Unit := .map ((es'.toList.map (WideElems.rg P (ρk.t 26) R)).foldr DataW.insert [])
  have hown : w.ownsMap P (ρk.t 26) R q.blk es'.size D0 := ⟨es', clock, hmb, hfit, Nat.le_refl _, rfl⟩
  have hsz : Maps.size D0 ≤ 1048576 := Nat.le_trans hown.size_le hesz
  have hkD : (Go.strKeys D0).Perm (ks.map fun b => b.data.toList) := by
    have h1 : (Go.strKeys D0).Perm ((es'.toList.map (WideElems.rg P (ρk.t 26) R)).map fun p => strOf p.1) := (sorted_perm _).map _
    refine h1.trans (.of_eq ?_)
    rw [List.map_map]
    have h2 : ks.map (fun b => b.data.toList) = (es'.toList.map (·.key)).map fun v => match v with | .string s => s.data.toList | _ => [] := by rw [hkeys, List.map_map]; rfl
    rw [h2, List.map_map]
    refine List.map_congr_left fun x hx => ?_
    obtain ⟨s, h3, _, h4⟩ := hread x hx
    simp [WideElems.rg, h4, strOf, h3]
  have hseq : SeqGives Fence.wide 2 P (ρk.f 10) #[.pointer (some ⟨p.blk, 0, none⟩)] encStr (fun ss => ss.Perm (Go.strKeys D0)) (Maps.size D0) w :=
    AnyZ.keys_gives F.Lk Fence.wide _ trivial rfl (by omega) p.blk q.blk es'.size D0 w hbw hcell hown
  have cS := AnyZ.sorted_in F.Ls Fence.wide 5 trivial trivial trivial trivial rfl (by omega) (F.hs _) F.e9 (ρk.f 10) #[.pointer (some ⟨p.blk, 0, none⟩)] trivial F.eg _ _ (by unfold maxLen; omega) (by omega) w hseq
  refine ((callsIn_wide (n := 5)).1 cS).mono ?_
  rintro e w' ⟨v', ss, rfl, hS, hrow', hnil, hbel⟩
  -- what was sorted
  have hsorted : ss.mergeSort (fun x y => decide (x ≤ y)) = (sortStr ks).map fun b => b.data.toList := by
    have hp1 : ss.Perm ((sortStr ks).map fun b => b.data.toList) := (hS.trans hkD).trans (hperm.map _).symm
    have e1 : ss.mergeSort leB = ((sortStr ks).map fun b => b.data.toList).mergeSort leB := mergeSort_of_perm hp1
    have e2 : ((sortStr ks).map fun b => b.data.toList).mergeSort leB = (sortStr ks).map fun b => b.data.toList :=
      List.mergeSort_of_pairwise (hpw.imp fun h => by simpa [leB] using h.1)
    exact e1.trans e2
  have hBel : Below B w w' := hbel.mono hr.base
  have hstay : HR B W0 μ H w' := hr.of_world hBel hbel.size (fun v o p hv hp => hbel.block _ (hr.blk_lt hv hp)) (fun b O e => hbel.block _ (Array.getElem?_eq_some_iff.1 (hr.kept b O e)).1)
  have hssl : ss.length = (sortStr ks).length := by
    have := congrArg List.length hsorted
    simpa using this
  split at hrun
  · rename_i hl0
    cases hrun
    have hss : ss = [] := List.eq_nil_of_length_eq_zero (by rw [hssl, hl0]; rfl)
    refine ⟨μ, v', rfl, μ.le_refl, hstay, ?_⟩
    rw [hnil.2 hss]
    exact .slcN _ _
  · rename_i x rr hl0
    cases hrun
    obtain ⟨_, hv | ⟨gb, cap, cur, rfl, hgb, hgc, hnc, _, hcs2, htake⟩⟩ := hrow'
    · exfalso
      rw [hssl, hl0] at hv
      simp at hv
    · rw [hsorted, hssl] at htake
      rw [hssl] at hnc
      have hgs : w.heap.size ≤ gb := hgb
      have hfree : μ.kp gb = none := by
        cases hk : μ.kp gb with
        | none => rfl
        | some O => have := (Array.getElem?_eq_some_iff.1 (hr.kept gb O hk)).1; omega
      have hle : μ.le (μ.ext H.next ⟨gb, 0, cap - (sortStr ks).length⟩) := Mu.le_ext (hr.fresh _ (Nat.le_refl _))
      rw [hssl, hl0]
      refine ⟨μ.ext H.next ⟨gb, 0, cap - (sortStr ks).length⟩, _, rfl, hle, ?_, ?_⟩
      · refine hr.add (w' := w') _ ⟨gb, 0, cap - (sortStr ks).length⟩ hBel hbel.size (Nat.le_trans hr.base hgs) rfl ?_ ?_ hfree ?_
        · intro u o' qq hu hqq ho' hbb
          have := hr.blk_lt hu hqq
          have hbb' : qq.blk = gb := hbb
          omega
        · intro b _ hlt; exact hbel.block b hlt
        · refine ⟨cur, ρs.t 26, (0, 0), hgc, ?_, fun _ => ⟨rfl, by simp, ?_, .inl rfl, fun _ => rfl, fun h => by cases h⟩⟩
          · intro i y hy
            simp only at hy
            rw [List.getElem?_map, Option.map_eq_some_iff] at hy
            obtain ⟨s, hs, rfl⟩ := hy
            refine ⟨.string s, ?_, .str s⟩
            have h1 : (((sortStr ks).map fun b => b.data.toList).map encStr)[i]? = some (.string s) := by
              rw [hl0, List.getElem?_map, List.getElem?_map, hs]
              simp [encStr]
            rw [← htake, List.getElem?_take] at h1
            split at h1
            · simpa using h1
            · cases h1
          · simp only [if_true, hcs2, ← hl0]; omega
      · have e3 : (x :: rr).length + (cap - (x :: rr).length) = cap := by rw [← hl0]; omega
        have := VR.slo (μ := μ.ext H.next ⟨gb, 0, cap - (x :: rr).length⟩) H.next 0 (x :: rr).length (x :: rr).length ⟨gb, 0, cap - (x :: rr).length⟩ (Mu.ext_same ..)
        rw [hl0]
        simp only [Nat.add_zero, e3] at this
        exact this
theorem sorted_any {G : GS} {l : List Ren} (h : ∀ r ∈ l, SrtFn P r ρs) {args : List Value} {H H' : Heap} {v : Value}
    (hrun : sortedKeysA H (ρs.t 26) (l.map fun r => r.f 10) args = some (v, H')) : TCall P G (ρs.f 6) args H v H' := by
  have hrun0 := hrun
  unfold sortedKeysA at hrun
  split at hrun
  case h_2 => cases hrun
  case h_1 f first captured =>
  split at hrun
  case h_2 => cases hrun
  case h_1 v0 hc hf hca =>
  obtain ⟨r, hr, e⟩ := List.mem_map.1 (List.contains_iff_mem.1 hc)
  exact sorted_ok (h r hr) (fun f' _ captured' first' ha => by
    injection ha with ha _
    injection ha with ha _ _
    injection ha with ha
    rw [← ha, e]) hrun0
end
end Go.Vsx
