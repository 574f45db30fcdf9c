/- Strings by contract, 2: strings.Split, strconv.Atoi of strings that are atoms. -/
import Derived.Test.YtpgpkplljkkakaaGreatDoorVStrP
import Derived.Shelf.Strings.Split
import Derived.Shelf.Strconv.AtoiAll
set_option linter.all false
namespace Go.Vsx
open Go Go.RowKit Go.Proofs

theorem split_fits {P : Program} {E : Env} {ng : Nat} {H0 : Heap} {W : World} {m : Mu} {f : FuncId} {e : TypeId} {ρ : Shelf.Ren} (hf : FnIs P f) (L : Lays.n146 P ρ) (hi9 : (P.info? (ρ.t 9)).map (fun i => (i.zero, i.size, i.bytes)) = some (some (.string ByteArray.empty), 1, 16)) (hρ : ρ.f 146 = f) (ht : ρ.t 9 = e) (Y : SymOk E m)
    (hm : ∃ q, W.cell? ⟨(ρ.g 1), 0, none⟩ = some (.int .i64 q)) : PrimFits P E (lawG ng H0 W m) f (.split e) := by
  refine ⟨hf, fun args H v H' h B W0 μ w args' hr g hl => ?_⟩
  unfold primA at h
  simp only [] at h
  split at h
  case h_2 => cases h
  case h_1 x y =>
  split at h
  case h_2 => cases h
  case h_1 k n hn =>
  split at h
  case isFalse => cases h
  case isTrue hn64 =>
  cases h
  have Y' : SymOk E μ := Y.mono g.2.2
  obtain ⟨x', y', rfl, hx, hy⟩ := args_two hl
  obtain ⟨o1, o2, _⟩ := symLook_mem hn
  obtain ⟨s, t, h1, h2, h3, h4, h5⟩ := Y' _ _ _ _ hn
  rw [hx.one o1 h1, hy.one o2 h2]
  have hb : Below W.heap.size W w := by
    have := hr.below; rw [g.2.1.2.1, g.2.1.2.2] at this; exact this
  obtain ⟨q, hq⟩ := hm
  have hq' : w.cell? ⟨(ρ.g 1), 0, none⟩ = some (.int .i64 q) := by rw [hb.cell (World.block_lt_of_cell? _ _ hq)]; exact hq
  have hcnt : n = ((Lib.countB s t + 1 : Nat) : Int) := by
    generalize hz : Value.int .i64 ((Lib.countB s t + 1 : Nat) : Int) = z at h5
    cases h5
    injection hz with _ hz
    exact hz.symm
  have hnn : n.toNat = Lib.countB s t + 1 := by omega
  have hlen := Lib.splitB_all t h3 0 _ s rfl
  subst hρ; subst ht
  refine (Any.strings_Split L hi9 s t q w (by omega) hq' h3).mono ?_
  rintro e w' ⟨rfl, rfl⟩
  have hle : μ.le (μ.ext H.next ⟨w.heap.size, 0, 0⟩) := Mu.le_ext (hr.fresh _ (Nat.le_refl _))
  have hvl : VL μ ((List.range n.toNat).map fun i => (symLook E (.piece i) x y).getD (.chan none)) ((Lib.splitB t 0 (Lib.countB s t) s).map Value.string) := by
    refine ⟨by simp [hnn, hlen], fun i u u' hu hu' => ?_⟩
    have hlt := (List.getElem?_eq_some_iff.1 hu).1
    rw [List.getElem?_map, List.getElem?_range (by simpa using hlt)] at hu
    simp only [Option.map_some, Option.some.injEq] at hu
    subst hu
    cases hp : symLook E (.piece i) x y with
    | none => exact .any _
    | some r =>
      obtain ⟨s', t', p, a1, a2, a3, a4⟩ := Y' _ _ _ _ hp
      have e1 : Value.string s = .string s' := h1.one o1 a1
      have e2 : Value.string t = .string t' := h2.one o2 a2
      cases e1; cases e2
      rw [List.getElem?_map, a3] at hu'
      cases hu'
      exact a4
  refine ⟨μ.ext H.next ⟨w.heap.size, 0, 0⟩, _, rfl, hle, ?_, ?_⟩
  · refine hr.push _ _ 0 0 rfl ?_
    refine ⟨((Lib.splitB t 0 (Lib.countB s t) s).map Value.string).toArray, ρ.t 9, (0, 0), by simp [World.alloc], ?_⟩
    have := rowOk_exact (hvl.mono hle) (ρ.t 9) 1 w.heap.size 0
    simpa using this
  · rw [hnn]
    have := VR.slc (μ := μ.ext H.next ⟨w.heap.size, 0, 0⟩) H.next 0 (Lib.countB s t + 1) (Lib.countB s t + 1) ⟨w.heap.size, 0, 0⟩ (Mu.ext_same ..)
    simpa using this

theorem atoi_fits {P : Program} {E : Env} {ng : Nat} {H0 : Heap} {W : World} {m : Mu} {f : FuncId} {ρ : Shelf.Ren} (hf : FnIs P f) (L : LaysC.n172 P ρ) (hρ : ρ.f 172 = f) (Y : SymOk E m)
    (h15 : ∃ te pe, W.cell? ⟨(ρ.g 15), 0, none⟩ = some (.iface te pe)) (h16 : ∃ te pe, W.cell? ⟨(ρ.g 16), 0, none⟩ = some (.iface te pe)) : PrimFits P E (lawG ng H0 W m) f .atoi := by
  refine ⟨hf, fun args H v H' h B W0 μ w args' hr g hl => ?_⟩
  unfold primA at h
  simp only [] at h
  split at h
  case h_2 => cases h
  case h_1 x =>
  obtain ⟨r, h1, h2⟩ := Option.map_eq_some_iff.1 h
  cases h2
  have Y' : SymOk E μ := Y.mono g.2.2
  obtain ⟨x', rfl, hx⟩ := args_one hl
  obtain ⟨o1, _, _⟩ := symLook_mem h1
  obtain ⟨s, k1, k2, k3⟩ := Y' _ _ _ _ h1
  rw [hx.one o1 k1]
  have hb : Below W.heap.size W w := by
    have := hr.below; rw [g.2.1.2.1, g.2.1.2.2] at this; exact this
  obtain ⟨te, pe, c15⟩ := h15
  obtain ⟨te', pe', c16⟩ := h16
  have c15' : w.cell? ⟨(ρ.g 15), 0, none⟩ = some (.iface te pe) := by rw [hb.cell (World.block_lt_of_cell? _ _ c15)]; exact c15
  have c16' : w.cell? ⟨(ρ.g 16), 0, none⟩ = some (.iface te' pe') := by rw [hb.cell (World.block_lt_of_cell? _ _ c16)]; exact c16
  subst hρ
  have two : ∀ {a b : Value}, VR μ r a → VR μ (.tuple #[r, .chan none]) (.tuple #[a, b]) := fun ha => .tuple _ _ rfl (fun i u u' hu hu' => by
    rcases i with _ | _ | i
    · simp at hu hu'; subst hu; subst hu'; exact ha
    · simp at hu hu'; subst hu; exact .any _
    · simp at hu)
  unfold atoiV at k3
  split at k3
  case h_1 v hv =>
    refine (Any.strconv_Atoi_ok L s (by omega) v hv w).mono ?_
    rintro e w' ⟨rfl, hw⟩
    refine ⟨μ, _, rfl, μ.le_refl, ?_, two k3⟩
    rcases hw with rfl | ⟨t, rfl⟩
    · exact hr
    · exact hr.stays (Lib.bytesWorld_below _ _ _)
  case h_2 hv =>
    refine (Any.strconv_Atoi_syntax L s (by omega) hv _ w c15' (.inr ⟨_, _, rfl⟩)).mono ?_
    rintro e w' ⟨N, rfl, _, _, hw⟩
    exact ⟨μ, _, rfl, μ.le_refl, hr.stays hw, two k3⟩
  case h_3 hv =>
    refine (Any.strconv_Atoi_range L s (by omega) hv _ w c16' (.inr ⟨_, _, rfl⟩)).mono ?_
    rintro e w' ⟨N, rfl, _, _, hw⟩
    exact ⟨μ, _, rfl, μ.le_refl, hr.stays hw, two k3⟩
end Go.Vsx
