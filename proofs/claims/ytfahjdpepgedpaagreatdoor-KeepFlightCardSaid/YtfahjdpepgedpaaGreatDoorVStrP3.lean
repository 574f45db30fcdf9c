/- Strings by contract, 3: slices.Sorted of one key that is an atom; strconv.Atoi with its error; a function of a string that answers nought, whatever follows an 'x'. -/
import Derived.Test.YtfahjdpepgedpaaGreatDoorVStrP
import Derived.Test.YtfahjdpepgedpaaGreatDoorVSrt
import Derived.Test.YtfahjdpepgedpaaGreatDoorVTab
import Derived.Test.YtfahjdpepgedpaaGreatDoorVClose
import Derived.Shelf.Strconv.AtoiAll
set_option linter.all false
namespace Go.Vsx
open Go Go.RowKit Go.Maps Go.Sort Go.Shelf Go.Proofs Go.WideElems Go.WideShapes Go.WideMaps
set_option linter.unusedVariables false
section
variable {P : Program} {E : Env} (T : TyOk P E) {ρk ρs : Ren}
theorem sorted1_ok {G : GS} (Y : SymOk E G.m0) (F : SrtFn P ρk ρs) {args : List Value} {H H' : Heap} {v : Value} {clos : List FuncId} (hcl : ∀ f, clos.contains f = true → ∀ captured first, args = [.func (.func f) first captured] → f = ρk.f 10)
    (hrun : sorted1A E H (ρs.t 26) clos args = some (v, H')) : TCall P G (ρs.f 6) args H v H' := by
  intro B W0 μ w args' hr g hl
  have Y' : SymOk E μ := Y.mono g.2.2
  unfold sorted1A at hrun
  split at hrun
  case h_2 => cases hrun
  case h_1 f first captured =>
  split at hrun
  case h_2 => cases hrun
  case h_1 v0 hc hf hca =>
  have hfe := hcl f hc captured first rfl
  subst hfe
  obtain ⟨x', r1, e1, hx, hl1⟩ := hl.cons_inv
  obtain rfl := hl1.nil_inv
  have ha : args' = #[x'] := Array.toList_inj.1 (by rw [e1])
  subst ha
  clear e1 hl hl1
  obtain ⟨p, hp, rfl⟩ : ∃ p, μ.pl v0 = some p ∧ x' = .func (.func (ρk.f 10)) #[] #[.pointer (some ⟨p.blk, p.off + 0, none⟩)] := by
    cases hx with
    | func _ _ a' _ c' hsa hsc h1 h2 =>
      have ea : a' = #[] := by
        have : first.size = 0 := by rw [← Array.length_toList, hf]; rfl
        exact Array.eq_empty_of_size_eq_zero (by omega)
      have ec : captured = #[.pointer (some ⟨v0, 0, none⟩)] := Array.toList_inj.1 (by rw [hca])
      subst ec
      have hc1 : c'.size = 1 := by rw [← hsc]; rfl
      obtain ⟨y, rfl⟩ : ∃ y, c' = #[y] := by
        obtain ⟨l⟩ := c'
        match l, hc1 with
        | [y], _ => exact ⟨y, rfl⟩
      have := h2 0 _ y rfl rfl
      cases this with
      | ptr _ _ p hp => exact ⟨p, hp, by rw [ea]⟩
  split at hrun
  case h_2 => cases hrun
  case h_1 r hrow =>
  split at hrun
  case h_2 => cases hrun
  case h_1 rm rest hro0 hcs =>
  have hro : r.ro = false ∧ r.opn = false := by simpa using hro0
  split at hrun
  case h_2 => cases hrun
  case h_1 e0 clock hget =>
  split at hrun
  case h_2 => cases hrun
  case h_1 a hea heb =>
  split at hrun
  case h_2 => cases hrun
  case h_1 z hz =>
  obtain ⟨s0, hs1, hs2, _⟩ := Y' _ _ _ _ hz
  obtain ⟨o1, _, _⟩ := symLook_mem hz
  let ks : List ByteArray := [s0]
  let es : List MapEntry := [e0]
  have hget : H.get rm = some (.map es clock) := hget
  have hris : risingB (sortStr ks) = true := by rfl
  have hksz : ∀ k ∈ ks, k.size ≤ 1048576 := fun k hk => by
    obtain rfl : k = s0 := List.mem_singleton.1 hk
    omega
  have hlen : es.length ≤ 1048576 := by show 1 ≤ 1048576; omega
  have hborn : ∀ x ∈ es, Nat.blt x.born clock = true := fun x hx => by
    obtain rfl : x = e0 := List.mem_singleton.1 hx
    exact heb
  have hapart : natsApart (es.map (·.born)) = true := rfl
  -- the box
  obtain ⟨p0, cc, e1, fr, pa, hb, k1, k2⟩ := hr.row hrow
  rw [hp] at pa; cases pa
  obtain ⟨_, _, _, _, _, hoff⟩ := k2 hro.1
  have hoff := hoff hro.2
  rw [hoff]
  obtain ⟨mv, hm1, hm2⟩ := k1 0 (.map (some rm)) (by rw [hcs]; rfl)
  rw [hoff] at hm1
  obtain ⟨q, hq, rfl⟩ : ∃ q, μ.pl rm = some q ∧ mv = .map (some q.blk) := by
    cases hm2 with
    | map _ q hq => exact ⟨q, hq, rfl⟩
  obtain ⟨q', hq', hOR, _⟩ := hr.obj rm _ hget
  rw [hq] at hq'; cases hq'
  obtain ⟨es', hmb, hel, hME⟩ := hOR
  have hbw := (Array.getElem?_eq_some_iff.1 hb).1
  have hcell : w.cell? ⟨p.blk, 0, none⟩ = some (.map (some q.blk)) := by rw [cell?_of_block hb]; simpa using hm1
  -- the entries
  have hkeys : es'.toList.map (·.key) = ks.map Value.string := by
    have h1 : es'.toList.length = 1 := by rw [Array.length_toList, ← hel]; rfl
    match hq : es'.toList, h1 with
    | [e'], _ =>
      have hme := hME 0 e0 e' rfl (by rw [← Array.getElem?_toList, hq]; rfl)
      have h2 := hme.1
      rw [hea] at h2
      have h3 : e'.key = .string s0 := h2.one o1 hs1
      simp [h3, ks]
  have hborns : es'.toList.map (·.born) = es.map (·.born) := by
    apply List.ext_getElem?
    intro i
    rw [List.getElem?_map, List.getElem?_map]
    cases hi : es[i]? with
    | none =>
      have : es'.toList[i]? = none := by rw [List.getElem?_eq_none_iff] at hi ⊢; simpa using (by omega : es'.size ≤ i)
      rw [this]
    | some e =>
      have hlt := (List.getElem?_eq_some_iff.1 hi).1
      have hlt' : i < es'.toList.length := by simpa using (by omega : i < es'.size)
      rw [List.getElem?_eq_getElem hlt']
      have hme := hME i e es'.toList[i] hi (by rw [← Array.getElem?_toList]; exact List.getElem?_eq_getElem hlt')
      show some (es'.toList[i].born) = some e.born
      rw [hme.2.2]
  have hpw := rising_pairs _ hris
  have hperm := sortStr_perm ks
  have hbnd : (ks.map fun b => b.data.toList).Nodup := by
    have : (ks.map fun b => b.data.toList).Perm ((sortStr ks).map fun b => b.data.toList) := (hperm.map _).symm
    exact this.nodup_iff.2 (hpw.imp fun h => h.2)
  let R : Value → Option (DataW Unit × List MemPlace) := fun _ => some (.lit (.bool true), [])
  have hread : ∀ x ∈ es'.toList, ∃ s : ByteArray, x.key = .string s ∧ s ∈ ks ∧ WideElems.rd P (ρk.t 26) R x = some (.string s.data.toList, .lit (.bool true)) := by
    intro x hx
    have : x.key ∈ ks.map Value.string := by rw [← hkeys]; exact List.mem_map.2 ⟨x, hx, rfl⟩
    obtain ⟨s, hs, hk⟩ := List.mem_map.1 this
    refine ⟨s, hk.symm, hs, ?_⟩
    have hsz : s.size ≤ maxLen := by have := hksz s hs; unfold maxLen; omega
    simp [WideElems.rd, ← hk, keyOf_string_mk F.str hsz, R]
  have hesz : es'.size ≤ 1048576 := by omega
  have hfit : Fit P (ρk.t 26) R es' clock := by
    refine ⟨by unfold maxLen; omega, ⟨?_, ?_, ?_⟩, fun x hx => let ⟨s, _, _, h⟩ := hread x hx; ⟨_, h⟩⟩
    · intro x hx
      have : x.born ∈ es.map (·.born) := by rw [← hborns]; exact List.mem_map.2 ⟨x, hx, rfl⟩
      obtain ⟨e, he, hee⟩ := List.mem_map.1 this
      rw [← hee]
      exact Nat.le_of_ble_eq_true (hborn e he)
    · rw [hborns]; exact natsApart_nodup _ hapart
    · rw [hkeys]
      refine List.pairwise_map.2 ?_
      have := List.pairwise_map.1 hbnd
      exact this.imp fun h e => h (by injection e with e; rw [e])
  let D0 : DataW Unit := .map ((es'.toList.map (WideElems.rg P (ρk.t 26) R)).foldr DataW.insert [])
  have hown : w.ownsMap P (ρk.t 26) R q.blk es'.size D0 := ⟨es', clock, hmb, hfit, Nat.le_refl _, rfl⟩
  have hsz : Maps.size D0 ≤ 1048576 := Nat.le_trans hown.size_le hesz
  have hkD : (Go.strKeys D0).Perm (ks.map fun b => b.data.toList) := by
    have h1 : (Go.strKeys D0).Perm ((es'.toList.map (WideElems.rg P (ρk.t 26) R)).map fun p => strOf p.1) := (sorted_perm _).map _
    refine h1.trans (.of_eq ?_)
    rw [List.map_map]
    have h2 : ks.map (fun b => b.data.toList) = (es'.toList.map (·.key)).map fun v => match v with | .string s => s.data.toList | _ => [] := by rw [hkeys, List.map_map]; rfl
    rw [h2, List.map_map]
    refine List.map_congr_left fun x hx => ?_
    obtain ⟨s, h3, _, h4⟩ := hread x hx
    simp [WideElems.rg, h4, strOf, h3]
  have hseq : SeqGives Fence.wide 2 P (ρk.f 10) #[.pointer (some ⟨p.blk, 0, none⟩)] encStr (fun ss => ss.Perm (Go.strKeys D0)) (Maps.size D0) w :=
    AnyZ.keys_gives F.Lk Fence.wide _ trivial rfl (by omega) p.blk q.blk es'.size D0 w hbw hcell hown
  have cS := AnyZ.sorted_in F.Ls Fence.wide 5 trivial trivial trivial trivial rfl (by omega) (F.hs _) F.e9 (ρk.f 10) #[.pointer (some ⟨p.blk, 0, none⟩)] trivial F.eg _ _ (by unfold maxLen; omega) (by omega) w hseq
  refine ((callsIn_wide (n := 5)).1 cS).mono ?_
  rintro e w' ⟨v', ss, rfl, hS, hrow', hnil, hbel⟩
  -- what was sorted
  have hsorted : ss.mergeSort (fun x y => decide (x ≤ y)) = (sortStr ks).map fun b => b.data.toList := by
    have hp1 : ss.Perm ((sortStr ks).map fun b => b.data.toList) := (hS.trans hkD).trans (hperm.map _).symm
    have e1 : ss.mergeSort leB = ((sortStr ks).map fun b => b.data.toList).mergeSort leB := mergeSort_of_perm hp1
    have e2 : ((sortStr ks).map fun b => b.data.toList).mergeSort leB = (sortStr ks).map fun b => b.data.toList :=
      List.mergeSort_of_pairwise (hpw.imp fun h => by simpa [leB] using h.1)
    exact e1.trans e2
  have hBel : Below B w w' := hbel.mono hr.base
  have hstay : HR B W0 μ H w' := hr.of_world hBel hbel.size (fun v o p hv hp => hbel.block _ (hr.blk_lt hv hp)) (fun b O e => hbel.block _ (Array.getElem?_eq_some_iff.1 (hr.kept b O e)).1)
  have hssl : ss.length = (sortStr ks).length := by
    have := congrArg List.length hsorted
    simpa using this
  cases hrun
  have hl0 : sortStr ks = [s0] := rfl
  obtain ⟨_, hv | ⟨gb, cap, cur, rfl, hgb, hgc, hnc, _, hcs2, htake⟩⟩ := hrow'
  · exfalso
    rw [hssl, hl0] at hv
    simp at hv
  · rw [hsorted, hssl] at htake
    rw [hssl] at hnc
    have hgs : w.heap.size ≤ gb := hgb
    have hfree : μ.kp gb = none := by
      cases hk : μ.kp gb with
      | none => rfl
      | some O => have := (Array.getElem?_eq_some_iff.1 (hr.kept gb O hk)).1; omega
    have hle : μ.le (μ.ext H.next ⟨gb, 0, cap - (sortStr ks).length⟩) := Mu.le_ext (hr.fresh _ (Nat.le_refl _))
    rw [hssl, hl0]
    refine ⟨μ.ext H.next ⟨gb, 0, cap - (sortStr ks).length⟩, _, rfl, hle, ?_, ?_⟩
    · refine hr.add (w' := w') _ ⟨gb, 0, cap - (sortStr ks).length⟩ hBel hbel.size (Nat.le_trans hr.base hgs) rfl ?_ ?_ hfree ?_
      · intro u o' qq hu hqq ho' hbb
        have := hr.blk_lt hu hqq
        have hbb' : qq.blk = gb := hbb
        omega
      · intro b _ hlt; exact hbel.block b hlt
      · refine ⟨cur, ρs.t 26, (0, 0), hgc, ?_, fun _ => ⟨rfl, by simp, ?_, .inl rfl, fun _ => rfl, fun h => by cases h⟩⟩
        · intro i y hy
          rcases i with _ | i
          · simp only [List.getElem?_cons_zero, Option.some.injEq] at hy
            subst hy
            refine ⟨.string s0, ?_, hs1.mono hle⟩
            have h1 : (((sortStr ks).map fun b => b.data.toList).map encStr)[0]? = some (.string s0) := by
              rw [hl0]; simp [encStr]
            rw [← htake, List.getElem?_take] at h1
            split at h1
            · simpa using h1
            · cases h1
          · simp at hy
        · have hk1 : (sortStr ks).length = 1 := rfl
          rw [hk1] at hnc
          simp only [if_true, hcs2, hk1]; omega
    · have hk1 : (sortStr ks).length = 1 := rfl
      have e3 : 1 + (cap - 1) = cap := by rw [hk1] at hnc; omega
      have := VR.slo (μ := μ.ext H.next ⟨gb, 0, cap - 1⟩) H.next 0 1 1 ⟨gb, 0, cap - 1⟩ (Mu.ext_same ..)
      simp only [Nat.add_zero, e3] at this
      exact this
theorem sorted1_any {G : GS} (Y : SymOk E G.m0) {l : List Ren} (h : ∀ r ∈ l, SrtFn P r ρs) {args : List Value} {H H' : Heap} {v : Value}
    (hrun : sorted1A E H (ρs.t 26) (l.map fun r => r.f 10) args = some (v, H')) : TCall P G (ρs.f 6) args H v H' := by
  have hrun0 := hrun
  unfold sorted1A at hrun
  split at hrun
  case h_2 => cases hrun
  case h_1 f first captured =>
  split at hrun
  case h_2 => cases hrun
  case h_1 v0 hc hf hca =>
  obtain ⟨r, hr, e⟩ := List.mem_map.1 (List.contains_iff_mem.1 hc)
  exact sorted1_ok Y (h r hr) (fun f' _ captured' first' ha => by
    injection ha with ha _
    injection ha with ha _ _
    injection ha with ha
    rw [← ha, e]) hrun0
theorem sorted1_fits {G : GS} (Y : SymOk E G.m0) {f : FuncId} (hf : FnIs P f) (hρ : ρs.f 6 = f) {e : TypeId} (he : ρs.t 26 = e) {l : List Ren} (h : ∀ r ∈ l, SrtFn P r ρs) : PrimFits P E G f (.sorted1 e (l.map fun r => r.f 10)) := by
  subst hρ; subst he
  refine ⟨hf, fun args H v H' hp => ?_⟩
  unfold primA at hp
  simp only [] at hp
  split at hp
  · rename_i r hr
    cases hp
    exact sorted1_any Y h hr
  · exact sorted_any h hp
end

theorem atoi2_fits {P : Program} {E : Env} {ng : Nat} {H0 : Heap} {W : World} {m : Mu} {f : FuncId} {te : TypeId} {ρ : Shelf.Ren} (hf : FnIs P f) (L : LaysC.n172 P ρ) (hρ : ρ.f 172 = f) (ht : ρ.t 168 = te) (Y : SymOk E m)
    (h15 : ∃ te pe, W.cell? ⟨(ρ.g 15), 0, none⟩ = some (.iface te pe)) (h16 : ∃ te pe, W.cell? ⟨(ρ.g 16), 0, none⟩ = some (.iface te pe)) : PrimFits P E (lawG ng H0 W m) f (.atoi2 te) := by
  refine ⟨hf, fun args H v H' h B W0 μ w args' hr g hl => ?_⟩
  unfold primA at h
  simp only [] at h
  split at h
  case h_2 => cases h
  case h_1 x =>
  have Y' : SymOk E μ := Y.mono g.2.2
  obtain ⟨x', rfl, hx⟩ := args_one hl
  have hb : Below W.heap.size W w := by
    have := hr.below; rw [g.2.1.2.1, g.2.1.2.2] at this; exact this
  obtain ⟨te', pe, c15⟩ := h15
  obtain ⟨te'', pe', c16⟩ := h16
  have c15' : w.cell? ⟨(ρ.g 15), 0, none⟩ = some (.iface te' pe) := by rw [hb.cell (World.block_lt_of_cell? _ _ c15)]; exact c15
  have c16' : w.cell? ⟨(ρ.g 16), 0, none⟩ = some (.iface te'' pe') := by rw [hb.cell (World.block_lt_of_cell? _ _ c16)]; exact c16
  subst hρ
  subst ht
  have two : ∀ {r q a b : Value}, VR μ r a → VR μ q b → VR μ (.tuple #[r, q]) (.tuple #[a, b]) := fun ha hb => .tuple _ _ rfl (fun i u u' hu hu' => by
    rcases i with _ | _ | i
    · simp at hu hu'; subst hu; subst hu'; exact ha
    · simp at hu hu'; subst hu; subst hu'; exact hb
    · simp at hu)
  have key : ∀ (r : Value) (q : Bool), symLook E .atoi x (.int .i64 0) = some r → symLook E .aerr x (.int .i64 0) = some (.bool q) →
      Calls P (ρ.f 172) #[x'] w fun e w' => ∃ a b, e = .returned (.tuple #[a, b]) ∧ VR μ r a ∧ HR B W0 μ H w' ∧ (q = true → ∃ N, b = .iface (ρ.t 168) (.pointer (some ⟨N, 0, none⟩))) ∧ (q = false → b = .nilIface) := by
    intro r q h1 h2
    obtain ⟨o1, _, _⟩ := symLook_mem h1
    obtain ⟨s, k1, k2, k3⟩ := Y' _ _ _ _ h1
    obtain ⟨s', j1, j2⟩ := Y' _ _ _ _ h2
    have e1 : x' = .string s := hx.one o1 k1
    have e2 : x' = .string s' := hx.one o1 j1
    subst e1
    injection e2 with e2
    subst e2
    generalize hz : Value.bool (match Lib.atoiAll s.data.toList with | .ok _ => false | _ => true) = z at j2
    cases j2
    injection hz with hz
    unfold atoiV at k3
    split at k3
    case h_1 v hv =>
      rw [hv] at hz
      refine (Any.strconv_Atoi_ok L s (by omega) v hv w).mono ?_
      rintro e w' ⟨rfl, hw⟩
      refine ⟨_, _, rfl, k3, ?_, fun h => absurd (hz.trans h) (by simp), fun _ => rfl⟩
      rcases hw with rfl | ⟨t, rfl⟩
      · exact hr
      · exact hr.stays (Lib.bytesWorld_below _ _ _)
    case h_2 hv =>
      rw [hv] at hz
      refine (Any.strconv_Atoi_syntax L s (by omega) hv _ w c15' (.inr ⟨_, _, rfl⟩)).mono ?_
      rintro e w' ⟨N, rfl, _, _, hw⟩
      exact ⟨_, _, rfl, k3, hr.stays hw, fun _ => ⟨N, rfl⟩, fun h => by rw [← hz] at h; cases h⟩
    case h_3 hv =>
      rw [hv] at hz
      refine (Any.strconv_Atoi_range L s (by omega) hv _ w c16' (.inr ⟨_, _, rfl⟩)).mono ?_
      rintro e w' ⟨N, rfl, _, _, hw⟩
      exact ⟨_, _, rfl, k3, hr.stays hw, fun _ => ⟨N, rfl⟩, fun h => by rw [← hz] at h; cases h⟩
  split at h
  · rename_i r h1 h2
    cases h
    refine (key r true h1 h2).mono ?_
    rintro e w' ⟨a, b, rfl, ha, hw, hb1, _⟩
    obtain ⟨N, rfl⟩ := hb1 rfl
    exact ⟨μ, _, rfl, μ.le_refl, hw, two ha (.iface _ _ _ (.any _))⟩
  · rename_i r h1 h2
    cases h
    refine (key r false h1 h2).mono ?_
    rintro e w' ⟨a, b, rfl, ha, hw, _, hb2⟩
    obtain rfl := hb2 rfl
    exact ⟨μ, _, rfl, μ.le_refl, hw, two ha .nilI⟩
  · cases h

/-- A function of a string, proved to answer nought behind an 'x'. -/
theorem frontX_fits {P : Program} {E : Env} {ng : Nat} {H0 : Heap} {W : World} {m : Mu} {f : FuncId} (hf : FnIs P f) (Y : SymOk E m)
    (hc : ∀ (w : World) (l : List UInt8), Below W.heap.size W w → l.length < 1048576 → Calls P f #[.string ⟨(120 :: l).toArray⟩] w fun e w' => e = .returned (.int .i64 0) ∧ Below w.heap.size w w') : PrimFits P E (lawG ng H0 W m) f .frontX := by
  refine ⟨hf, fun args H v H' h B W0 μ w args' hr g hl => ?_⟩
  unfold primA at h
  simp only [] at h
  split at h
  case h_2 => cases h
  case h_1 x =>
  have Y' : SymOk E μ := Y.mono g.2.2
  obtain ⟨x', rfl, hx⟩ := args_one hl
  have hb : Below W.heap.size W w := by
    have := hr.below; rw [g.2.1.2.1, g.2.1.2.2] at this; exact this
  split at h
  case h_2 => cases h
  case h_1 z hz =>
  split at h
  case h_2 => cases h
  case h_1 b hs =>
  split at h
  case h_2 => cases h
  case h_1 c hbc =>
  split at h
  case h_2 => cases h
  case h_1 h120 =>
  cases h
  obtain ⟨o1, _, _⟩ := symLook_mem hs
  obtain ⟨s, k, n, k1, k2, k3, k4⟩ := Y' _ _ _ _ hs
  obtain ⟨s2, j1, j2, _⟩ := Y' _ _ _ _ hz
  have e1 : x' = .string s := hx.one o1 k1
  have e2 : x' = .string s2 := hx.one o1 j1
  subst e1
  injection e2 with e2
  subst e2
  have hn : n = 1 := by
    generalize hq : Value.int k (n : Int) = q at k2
    cases k2
    injection hq with _ hq
    omega
  subst hn
  have hbs : b = s.extract 0 1 := by
    generalize hq : Value.string (s.extract 0 1) = q at k4
    cases k4
    injection hq with hq
    exact hq.symm
  have hl1 : s.data.toList = 120 :: s.data.toList.drop 1 := by
    have h1 : b.data.toList = s.data.toList.take 1 := by
      rw [hbs, ByteArray.data_extract, Array.toList_extract]; simp [List.extract]
    rw [hbc] at h1
    have hc120 : c = 120 := by
      have := Nat.eq_of_beq_eq_true h120
      exact UInt8.toNat_inj.1 this
    cases hq : s.data.toList with
    | nil => rw [hq] at h1; simp at h1
    | cons y r =>
      rw [hq] at h1
      simp at h1
      rw [← h1, hc120]; rfl
  have hs : s = ⟨(120 :: s.data.toList.drop 1).toArray⟩ := by
    cases s with | mk a =>
    simp only [] at hl1 ⊢
    rw [← hl1]
  rw [hs]
  have hsz : (s.data.toList.drop 1).length < 1048576 := by
    have : s.data.toList.length = s.size := by rw [Array.length_toList]; rfl
    simp only [List.length_drop]; omega
  refine (hc w _ hb hsz).mono ?_
  rintro e w' ⟨rfl, hw⟩
  exact ⟨μ, _, rfl, μ.le_refl, hr.stays hw, .int _ _⟩

/-- A call of a function with strings as arguments, whose answer is a whole number. -/
def answersI (r : Option (Value × Heap)) (n : Int) : Bool :=
  match r with
  | some (.int .i64 c, _) => decide (c = n)
  | _ => false
theorem callsI {P : Program} {E : Env} {ng : Nat} {gs : List Nat} {gt : List (Nat × List Value)} {f : FuncId} {n : Nat} {z : Int} {vals : List Value} {args : List Value} {args' : Array Value} (W : World) (hng : ng ≤ 1000)
    (R : Right P E (lawG ng (firstHeapT ng gs gt) W (nodeMu ng [] vals))) (h : answersI (fCall E n f args (firstHeapT ng gs gt)) z = true) (hc : Globs W ng gs gt) (hone : vals.all (·.oneCell') = true)
    (hl : VL (nodeMu ng [] vals) args args'.toList) : Calls P f args' W fun e W' => e = .returned (.int .i64 z) ∧ Below W.heap.size W W' := by
  rw [fCall_eq] at h
  unfold answersI at h
  split at h
  case h_2 => cases h
  case h_1 c H1 he =>
  have hcz : c = z := of_decide_eq_true h
  subst hcz
  have ha1 : ∀ k x, atomsOf vals k = some x → x.oneCell' = true ∧ 1000 ≤ k := by
    intro k x hk
    unfold atomsOf at hk
    split at hk
    · rename_i h1
      rw [List.all_eq_true] at hone
      exact ⟨hone x (List.mem_of_getElem? hk), h1⟩
    · cases hk
  obtain ⟨μ, hr, hpl, _, hle⟩ := initT hng W hc (atomsOf vals) ha1
  have hI := init_ofT hng W hc
  have hle' : (nodeMu ng [] vals).leV μ := by
    refine ⟨fun v p hp => ?_, fun k x hk => hle k x hk⟩
    simp only [nodeMu, List.getElem?_nil] at hp
    split at hp <;> cases hp
  have C : CallOk P (lawG ng (firstHeapT ng gs gt) W (nodeMu ng [] vals)) (callE E (execC E n)) := callE_ok R.T R.F R.R (sound R.T R.X R.hm R.F R.R n).1
  refine ((C f args _ _ H1 he).2 W.heap.size W μ W args' hr ⟨hpl, ⟨hI, rfl, rfl⟩, hle'⟩ ⟨hl.1, fun i v v' x y => (hl.2 i v v' x y).monoV hle'⟩).mono ?_
  rintro e W' ⟨μ', v', rfl, _, hr2, hv⟩
  cases hv
  exact ⟨rfl, hr2.below⟩
/-- Strings of the elements. -/
def strAt (V : Nat → List Value) (t i : Nat) : ByteArray := match (V i)[t]? with
  | some (.string x) => x
  | _ => .empty
theorem strAt_eq {V : Nat → List Value} {i t : Nat} {ks : List TypeDesc} (h : TypedL (V i) ks) (hk : ks[t]? = some .string) : (V i)[t]? = some (.string (strAt V t i)) := by
  obtain ⟨v, h1, x, rfl, _⟩ := h.2 t _ hk
  unfold strAt; rw [h1]
end Go.Vsx
