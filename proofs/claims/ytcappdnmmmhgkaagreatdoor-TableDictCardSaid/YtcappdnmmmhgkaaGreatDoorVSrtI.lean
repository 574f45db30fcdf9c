/- slices.Sorted over maps.Keys of a map with int keys: the executor's rule is right (over the shelf's contracts). -/
import Derived.Test.YtcappdnmmmhgkaaGreatDoorVSrt
import Derived.Shelf.SlIterI.Nil
import Derived.Shelf.SlIterI.Sorted
import Derived.Lib.SlKeysI
set_option linter.all false
namespace Go.Vsx
open Go Go.RowKit Go.Maps Go.Sort Go.Shelf Go.Proofs Go.WideElems Go.WideShapes Go.WideMaps
set_option linter.unusedVariables false

theorem insInt_perm (s : Int) : ∀ l, (insInt s l).Perm (s :: l)
  | [] => .refl _
  | t :: l => by
    simp only [insInt]
    split
    · exact ((insInt_perm s l).cons t).trans (.swap s t l)
    · exact .refl _
theorem sortInt_perm : ∀ l, (sortInt l).Perm l
  | [] => .refl _
  | s :: l => (insInt_perm s (sortInt l)).trans ((sortInt_perm l).cons s)

theorem risingI_pairs : ∀ (l : List Int), risingI l = true → l.Pairwise (fun a b => a ≤ b ∧ a ≠ b)
  | [], _ => .nil
  | a :: r, h => by
    simp only [risingI, Bool.and_eq_true, List.all_eq_true, decide_eq_true_eq] at h
    refine List.pairwise_cons.2 ⟨fun b hb => ?_, risingI_pairs r h.2⟩
    have := h.1 b hb
    exact ⟨by omega, by omega⟩

theorem intKeys_some : ∀ (es : List MapEntry) (ks : List Int), intKeysOf es = some ks → es.map (·.key) = ks.map (Value.int .i64)
  | [], ks, h => by simp only [intKeysOf, Option.some.injEq] at h; subst h; rfl
  | e :: es, ks, h => by
    simp only [intKeysOf] at h
    split at h
    · rename_i s hs
      simp only [Option.map_eq_some_iff] at h
      obtain ⟨ks', h1, rfl⟩ := h
      simp [hs, intKeys_some es ks' h1]
    · cases h

section
variable {P : Program} {E : Env} (T : TyOk P E) {ρk ρs : Ren}

/-- What is asked of the program's numbers. -/
structure SrtFnI (P : Program) (ρk ρs : Ren) : Prop where
  Lk : SlLaysZI.n10 P ρk
  Ls : SlLaysZI.n6 P ρs
  hs : ∀ m, AnyZI.SortsIn P ρs Fence.wide m
  e9 : ∀ args w, (callFunc (ρs.f 9) args).run P w = .ok (.enter (ρs.f 9) args) w
  eg : ∀ args w, (callFunc (ρk.f 10) args).run P w = .ok (.enter (ρk.f 10) args) w
  str : P.underlying (ρk.t 26) = some (.int .i64)

theorem sortedI_ok {G : GS} (F : SrtFnI P ρk ρs) {args : List Value} {H H' : Heap} {v : Value} {clos : List FuncId} (hcl : ∀ f, clos.contains f = true → ∀ captured first, args = [.func (.func f) first captured] → f = ρk.f 10)
    (hrun : sortedIntsA H (ρs.t 26) clos args = some (v, H')) : TCall P G (ρs.f 6) args H v H' := by
  intro B W0 μ w args' hr g hl
  unfold sortedIntsA at hrun
  split at hrun
  case h_2 => cases hrun
  case h_1 f first captured =>
  split at hrun
  case h_2 => cases hrun
  case h_1 v0 hc hf hca =>
  have hfe := hcl f hc captured first rfl
  subst hfe
  obtain ⟨x', r1, e1, hx, hl1⟩ := hl.cons_inv
  obtain rfl := hl1.nil_inv
  have ha : args' = #[x'] := Array.toList_inj.1 (by rw [e1])
  subst ha
  clear e1 hl hl1
  obtain ⟨p, hp, rfl⟩ : ∃ p, μ.pl v0 = some p ∧ x' = .func (.func (ρk.f 10)) #[] #[.pointer (some ⟨p.blk, p.off + 0, none⟩)] := by
    cases hx with
    | func _ _ a' _ c' hsa hsc h1 h2 =>
      have ea : a' = #[] := by
        have : first.size = 0 := by rw [← Array.length_toList, hf]; rfl
        exact Array.eq_empty_of_size_eq_zero (by omega)
      have ec : captured = #[.pointer (some ⟨v0, 0, none⟩)] := Array.toList_inj.1 (by rw [hca])
      subst ec
      have hc1 : c'.size = 1 := by rw [← hsc]; rfl
      obtain ⟨y, rfl⟩ : ∃ y, c' = #[y] := by
        obtain ⟨l⟩ := c'
        match l, hc1 with
        | [y], _ => exact ⟨y, rfl⟩
      have := h2 0 _ y rfl rfl
      cases this with
      | ptr _ _ p hp => exact ⟨p, hp, by rw [ea]⟩
  simp only [Option.bind_eq_bind, Option.bind_eq_some_iff] at hrun
  obtain ⟨r, hrow, hrun⟩ := hrun
  split at hrun
  · cases hrun
  rename_i hro
  simp only [Bool.or_eq_true, not_or, Bool.not_eq_true] at hro
  split at hrun
  case h_2 => cases hrun
  case h_1 rm rest hcs =>
  split at hrun
  case h_2 => cases hrun
  case h_1 es clock hget =>
  simp only [Option.bind_eq_some_iff] at hrun
  obtain ⟨ks, hks, hrun⟩ := hrun
  split at hrun
  · cases hrun
  rename_i hcond
  simp only [Bool.not_eq_true', Bool.not_eq_false, Bool.and_eq_true, List.all_eq_true, Nat.ble_eq] at hcond
  obtain ⟨⟨⟨⟨hris, hksz⟩, hlen⟩, hborn⟩, hapart⟩ := hcond
  -- the box
  obtain ⟨p0, cc, e1, fr, pa, hb, k1, k2⟩ := hr.row hrow
  rw [hp] at pa; cases pa
  obtain ⟨_, _, _, _, _, hoff⟩ := k2 hro.1
  have hoff := hoff hro.2
  rw [hoff]
  obtain ⟨mv, hm1, hm2⟩ := k1 0 (.map (some rm)) (by rw [hcs]; rfl)
  rw [hoff] at hm1
  obtain ⟨q, hq, rfl⟩ : ∃ q, μ.pl rm = some q ∧ mv = .map (some q.blk) := by
    cases hm2 with
    | map _ q hq => exact ⟨q, hq, rfl⟩
  obtain ⟨q', hq', hOR, _⟩ := hr.obj rm _ hget
  rw [hq] at hq'; cases hq'
  obtain ⟨es', hmb, hel, hME⟩ := hOR
  have hbw := (Array.getElem?_eq_some_iff.1 hb).1
  have hcell : w.cell? ⟨p.blk, 0, none⟩ = some (.map (some q.blk)) := by rw [cell?_of_block hb]; simpa using hm1
  -- the entries
  have hkeys : es'.toList.map (·.key) = ks.map (Value.int .i64) := by
    rw [← intKeys_some es ks hks]
    apply List.ext_getElem?
    intro i
    rw [List.getElem?_map, List.getElem?_map]
    cases hi : es[i]? with
    | none =>
      have : es'.toList[i]? = none := by rw [List.getElem?_eq_none_iff] at hi ⊢; simpa using (by omega : es'.size ≤ i)
      rw [this]
    | some e =>
      have hlt := (List.getElem?_eq_some_iff.1 hi).1
      have hlt' : i < es'.toList.length := by simpa using (by omega : i < es'.size)
      rw [List.getElem?_eq_getElem hlt']
      have hme := hME i e es'.toList[i] hi (by rw [← Array.getElem?_toList]; exact List.getElem?_eq_getElem hlt')
      have hk : ∃ s, e.key = .int .i64 s := by
        have : e.key ∈ ks.map (Value.int .i64) := by rw [← intKeys_some es ks hks]; exact List.mem_map.2 ⟨e, List.mem_of_getElem? hi, rfl⟩
        obtain ⟨s, _, hs⟩ := List.mem_map.1 this
        exact ⟨s, hs.symm⟩
      obtain ⟨s, hs⟩ := hk
      have h1 := hme.1
      rw [hs] at h1
      cases h1' : es'.toList[i].key with
      | int k' s' =>
        rw [h1'] at h1; cases h1
        show some (es'.toList[i].key) = some e.key
        rw [h1', hs]
      | _ => rw [h1'] at h1; cases h1
  have hborns : es'.toList.map (·.born) = es.map (·.born) := by
    apply List.ext_getElem?
    intro i
    rw [List.getElem?_map, List.getElem?_map]
    cases hi : es[i]? with
    | none =>
      have : es'.toList[i]? = none := by rw [List.getElem?_eq_none_iff] at hi ⊢; simpa using (by omega : es'.size ≤ i)
      rw [this]
    | some e =>
      have hlt := (List.getElem?_eq_some_iff.1 hi).1
      have hlt' : i < es'.toList.length := by simpa using (by omega : i < es'.size)
      rw [List.getElem?_eq_getElem hlt']
      have hme := hME i e es'.toList[i] hi (by rw [← Array.getElem?_toList]; exact List.getElem?_eq_getElem hlt')
      show some (es'.toList[i].born) = some e.born
      rw [hme.2.2]
  have hpw := risingI_pairs _ hris
  have hperm := sortInt_perm ks
  have hbnd : ks.Nodup := by
    have : ks.Perm (sortInt ks) := hperm.symm
    exact this.nodup_iff.2 (hpw.imp fun h => h.2)
  let R : Value → Option (DataW Unit × List MemPlace) := fun _ => some (.lit (.bool true), [])
  have hread : ∀ x ∈ es'.toList, ∃ s : Int, x.key = .int .i64 s ∧ s ∈ ks ∧ WideElems.rd P (ρk.t 26) R x = some (.int .i64 s, .lit (.bool true)) := by
    intro x hx
    have : x.key ∈ ks.map (Value.int .i64) := by rw [← hkeys]; exact List.mem_map.2 ⟨x, hx, rfl⟩
    obtain ⟨s, hs, hk⟩ := List.mem_map.1 this
    refine ⟨s, hk.symm, hs, ?_⟩
    have hsz : (Lit.int .i64 s).wf = true := by have := of_decide_eq_true (hksz s hs); simp [Lit.wf, IntKind.min, IntKind.max, IntKind.signed, IntKind.bits]; omega
    simp [WideElems.rd, ← hk, keyOf_int_mk F.str hsz, R]
  have hesz : es'.size ≤ 1048576 := by omega
  have hfit : Fit P (ρk.t 26) R es' clock := by
    refine ⟨by unfold maxLen; omega, ⟨?_, ?_, ?_⟩, fun x hx => let ⟨s, _, _, h⟩ := hread x hx; ⟨_, h⟩⟩
    · intro x hx
      have : x.born ∈ es.map (·.born) := by rw [← hborns]; exact List.mem_map.2 ⟨x, hx, rfl⟩
      obtain ⟨e, he, hee⟩ := List.mem_map.1 this
      rw [← hee]
      exact Nat.le_of_ble_eq_true (hborn e he)
    · rw [hborns]; exact natsApart_nodup _ hapart
    · rw [hkeys]
      refine List.pairwise_map.2 ?_
      exact hbnd.imp fun h e => h (by injection e with _ e)
  let D0 : DataW Unit := .map ((es'.toList.map (WideElems.rg P (ρk.t 26) R)).foldr DataW.insert [])
  have hown : w.ownsMap P (ρk.t 26) R q.blk es'.size D0 := ⟨es', clock, hmb, hfit, Nat.le_refl _, rfl⟩
  have hsz : Maps.size D0 ≤ 1048576 := Nat.le_trans hown.size_le hesz
  have hkD : (Go.intKeys D0).Perm ks := by
    have h1 : (Go.intKeys D0).Perm ((es'.toList.map (WideElems.rg P (ρk.t 26) R)).map fun p => intOf p.1) := (sorted_perm _).map _
    refine h1.trans (.of_eq ?_)
    rw [List.map_map]
    have h2 : ks = (es'.toList.map (·.key)).map fun v => (match v with | .int _ s => s | _ => 0 : Int) := by
      rw [hkeys, List.map_map]
      exact (List.map_id' ks).symm
    rw [h2, List.map_map]
    refine List.map_congr_left fun x hx => ?_
    obtain ⟨s, h3, _, h4⟩ := hread x hx
    simp [WideElems.rg, h4, intOf, h3]
  have hseq : SeqGives Fence.wide 2 P (ρk.f 10) #[.pointer (some ⟨p.blk, 0, none⟩)] encZ (fun ss => ss.Perm (Go.intKeys D0)) (Maps.size D0) w :=
    AnyZI.keys_gives F.Lk Fence.wide _ trivial rfl (by omega) p.blk q.blk es'.size D0 w hbw hcell hown
  have cS := AnyZI.sorted_in F.Ls Fence.wide 5 trivial trivial trivial trivial rfl (by omega) (F.hs _) F.e9 (ρk.f 10) #[.pointer (some ⟨p.blk, 0, none⟩)] trivial F.eg _ _ (by unfold maxLen; omega) (by omega) w hseq
  refine ((callsIn_wide (n := 5)).1 cS).mono ?_
  rintro e w' ⟨v', ss, rfl, hS, hrow', hnil, hbel⟩
  -- what was sorted
  have hsorted : ss.mergeSort (fun x y => decide (x ≤ y)) = (sortInt ks) := by
    have hp1 : ss.Perm (sortInt ks) := (hS.trans hkD).trans hperm.symm
    have e1 : ss.mergeSort leI = (sortInt ks).mergeSort leI := mergeSort_of_perm_i hp1
    have e2 : (sortInt ks).mergeSort leI = (sortInt ks) :=
      List.mergeSort_of_pairwise (hpw.imp fun h => by simpa [leI] using h.1)
    exact e1.trans e2
  have hBel : Below B w w' := hbel.mono hr.base
  have hstay : HR B W0 μ H w' := hr.of_world hBel hbel.size (fun v o p hv hp => hbel.block _ (hr.blk_lt hv hp)) (fun b O e => hbel.block _ (Array.getElem?_eq_some_iff.1 (hr.kept b O e)).1)
  have hssl : ss.length = (sortInt ks).length := by
    have := congrArg List.length hsorted
    simpa using this
  split at hrun
  · rename_i hl0
    cases hrun
    have hss : ss = [] := List.eq_nil_of_length_eq_zero (by rw [hssl, hl0]; rfl)
    refine ⟨μ, v', rfl, μ.le_refl, hstay, ?_⟩
    rw [hnil.2 hss]
    exact .slcN _ _
  · rename_i x rr hl0
    cases hrun
    obtain ⟨_, hv | ⟨gb, cap, cur, rfl, hgb, hgc, hnc, _, hcs2, htake⟩⟩ := hrow'
    · exfalso
      rw [hssl, hl0] at hv
      simp at hv
    · rw [hsorted, hssl] at htake
      rw [hssl] at hnc
      have hgs : w.heap.size ≤ gb := hgb
      have hfree : μ.kp gb = none := by
        cases hk : μ.kp gb with
        | none => rfl
        | some O => have := (Array.getElem?_eq_some_iff.1 (hr.kept gb O hk)).1; omega
      have hle : μ.le (μ.ext H.next ⟨gb, 0, cap - (sortInt ks).length⟩) := Mu.le_ext (hr.fresh _ (Nat.le_refl _))
      rw [hssl, hl0]
      refine ⟨μ.ext H.next ⟨gb, 0, cap - (sortInt ks).length⟩, _, rfl, hle, ?_, ?_⟩
      · refine hr.add (w' := w') _ ⟨gb, 0, cap - (sortInt ks).length⟩ hBel hbel.size (Nat.le_trans hr.base hgs) rfl ?_ ?_ hfree ?_
        · intro u o' qq hu hqq ho' hbb
          have := hr.blk_lt hu hqq
          have hbb' : qq.blk = gb := hbb
          omega
        · intro b _ hlt; exact hbel.block b hlt
        · refine ⟨cur, ρs.t 26, (0, 0), hgc, ?_, fun _ => ⟨rfl, by simp, ?_, .inl rfl, fun _ => rfl, fun h => by cases h⟩⟩
          · intro i y hy
            simp only at hy
            rw [List.getElem?_map, Option.map_eq_some_iff] at hy
            obtain ⟨s, hs, rfl⟩ := hy
            refine ⟨.int .i64 s, ?_, .int _ s⟩
            have h1 : ((sortInt ks).map encZ)[i]? = some (.int .i64 s) := by
              rw [hl0, List.getElem?_map, hs]
              simp [encZ]
            rw [← htake, List.getElem?_take] at h1
            split at h1
            · simpa using h1
            · cases h1
          · simp only [if_true, hcs2, ← hl0]; omega
      · have e3 : (x :: rr).length + (cap - (x :: rr).length) = cap := by rw [← hl0]; omega
        have := VR.slo (μ := μ.ext H.next ⟨gb, 0, cap - (x :: rr).length⟩) H.next 0 (x :: rr).length (x :: rr).length ⟨gb, 0, cap - (x :: rr).length⟩ (Mu.ext_same ..)
        rw [hl0]
        simp only [Nat.add_zero, e3] at this
        exact this
theorem sortedI_any {G : GS} {l : List Ren} (h : ∀ r ∈ l, SrtFnI P r ρs) {args : List Value} {H H' : Heap} {v : Value}
    (hrun : sortedIntsA H (ρs.t 26) (l.map fun r => r.f 10) args = some (v, H')) : TCall P G (ρs.f 6) args H v H' := by
  have hrun0 := hrun
  unfold sortedIntsA at hrun
  split at hrun
  case h_2 => cases hrun
  case h_1 f first captured =>
  split at hrun
  case h_2 => cases hrun
  case h_1 v0 hc hf hca =>
  obtain ⟨r, hr, e⟩ := List.mem_map.1 (List.contains_iff_mem.1 hc)
  exact sortedI_ok (h r hr) (fun f' _ captured' first' ha => by
    injection ha with ha _
    injection ha with ha _ _
    injection ha with ha
    rw [← ha, e]) hrun0
end
end Go.Vsx
