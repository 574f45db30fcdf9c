/- Proved: the law 'SourceAll' returns true, whatever its arguments are. No conditions. -/
import Derived.Test.YtcmfeakcdikjmaaGreatDoorVSeatSourceAllGl
import Derived.Test.YtcmfeakcdikjmaaGreatDoorVSeatFactsSourceAll
import Derived.Test.YtcmfeakcdikjmaaGreatDoorVSeatSourceAllFin
import Derived.Test.YtcmfeakcdikjmaaGreatDoorVClose
import Derived.Test.YtcmfeakcdikjmaaGreatDoorTie
import Derived.Test.YtcmfeakcdikjmaaGreatDoorCards
import Derived.WalkKit
import Derived.ProofKit
import Derived.OpenShut
import Derived.Lay
import Derived.LaidOnce
import Derived.SevenTiedAt
import Derived.Carry
set_option linter.all false
namespace Go.Proofs
open Go Go.Vsx Go.RowKit
set_option maxRecDepth 1000000
theorem Zw.first : Zw.d0.sub 8 [] [] (idA 2) ⟨Tryz.f3.ntmps, argTm [ch 1000, ch 1001], Tryz.H0⟩ = true := by kernel_rfl
theorem Zw.body : Tryz.f3.body.isSome = true := by kernel_rfl
theorem Zw.room : Nat.ble 2 Tryz.f3.ntmps = true := by kernel_rfl
theorem Zw.walk {W : World} {a0 : Option Addr} {m0 c0 : Nat} {f0q0 : Nat → Int} {f0q1 : Nat → Int} {f0q2 : Nat → Int} {a1 : Option Addr} {m1 c1 : Nat} {f1q0 : Nat → Int} {f1q1 : Nat → Int} (h0 : SlcOk W a0 m0 c0 3 (fun i => [.int .i64 (f0q0 i), .int .i64 (f0q1 i), .int .i64 (f0q2 i)])) (b0 : (m0 : Int) < 9223372036854775808) (r0q0 : ∀ i, R64 (f0q0 i)) (r0q1 : ∀ i, R64 (f0q1 i)) (r0q2 : ∀ i, R64 (f0q2 i)) (h1 : SlcOk W a1 m1 c1 2 (fun i => [.int .i64 (f1q0 i), .int .i64 (f1q1 i)])) (b1 : (m1 : Int) < 9223372036854775808) (r1q0 : ∀ i, R64 (f1q0 i)) (r1q1 : ∀ i, R64 (f1q1 i)) (hc : Globs W 8 Tryz.gsL Tryz.gtL) :
    Calls Tryz.prog 3 #[.slice a0 m0 c0, .slice a1 m1 c1] W fun e W' => e = .returned (.bool true) ∧ Below W.heap.size W W' :=
  calls_of_nodeT (vals := [.slice a0 m0 c0, .slice a1 m1 c1]) (args := [ch 1000, ch 1001]) (by omega) Tryz.func3 Zw.body (Nat.le_of_ble_eq_true Zw.room) hc rfl (VL.cons (.atom _ _ rfl) (VL.cons (.atom _ _ rfl) VL.nil)) Zw.first (Zw.n0 h0 b0 r0q0 r0q1 r0q2 h1 b1 r1q0 r1q1)
end Go.Proofs
namespace Go.Proofs.YtcmfeakcdikjmaaGreatDoor.sourceAll
open Go.ChangeShapes Go.WideShapes Go.ChangeAt Go.RowKit Go.Vsx
set_option linter.unusedVariables false
set_option maxRecDepth 100000

theorem own : ownKnob Tryz.prog.godebug = none := by kernel_rfl
theorem g0 : Tryz.prog.globalNamed "strconv.ErrSyntax" = some 0 := by kernel_rfl
theorem g1 : Tryz.prog.globalNamed "strconv.ErrRange" = some 1 := by kernel_rfl
theorem gt0 : (Tryz.prog.globals[0]?).map (·.type) = some 285 := by kernel_rfl
theorem gt1 : (Tryz.prog.globals[1]?).map (·.type) = some 285 := by kernel_rfl

theorem cellOf {W : World} {n : String} {g : Nat} {nm : String} {d : DataW Unit} (hg : Tryz.prog.globalNamed n = some g) (ht : (Tryz.prog.globals[g]?).map (·.type) = some 285) (h : Lib.VarReads Tryz.prog W n (.iface nm d)) :
    ∃ x, W.cell? ⟨g, 0, none⟩ = some x ∧ x.oneCell' = true := by
  obtain ⟨g', t, cs, fuel, p, h1, h2, h3, h4⟩ := h
  obtain rfl := Option.some.inj (hg.symm.trans h1)
  obtain rfl := Option.some.inj (ht.symm.trans h2)
  obtain ⟨u, v, hcs⟩ := trod_iface_cell Tryz.underlying285 h4
  have := World.var?_cell hg h3 0
  refine ⟨.iface u v, ?_, rfl⟩
  rw [this, ← Array.getElem?_toList, hcs]; rfl

theorem tg3 : Tryz.prog.globalNamed "internal/strconv.uint64pow10" = some 3 := by kernel_rfl
theorem tt3 : (Tryz.prog.globals[3]?).map (·.type) = some 465 := by kernel_rfl
theorem tc3 : Tryz.prog.cellsOf 313 = 1 := by kernel_rfl
theorem tg6 : Tryz.prog.globalNamed "math/bits.deBruijn32tab" = some 6 := by kernel_rfl
theorem tt6 : (Tryz.prog.globals[6]?).map (·.type) = some 476 := by kernel_rfl
theorem tc6 : Tryz.prog.cellsOf 5 = 1 := by kernel_rfl
theorem tg7 : Tryz.prog.globalNamed "math/bits.deBruijn64tab" = some 7 := by kernel_rfl
theorem tt7 : (Tryz.prog.globals[7]?).map (·.type) = some 477 := by kernel_rfl
theorem tc7 : Tryz.prog.cellsOf 5 = 1 := by kernel_rfl

theorem cells (W : World) (hL : laidMet Tryz.prog Rows.sourceAllRow.laid W) : Globs W 8 Tryz.gsL Tryz.gtL := by
  constructor
  · intro g hg
    simp only [Tryz.gsL, List.mem_cons, List.mem_nil_iff, or_false] at hg
    rcases hg with rfl | rfl
    · exact ⟨by decide, cellOf g0 gt0 (Lib.laidMet.reads hL (n := "strconv.ErrSyntax") (d := Rows.laid_strconv_ErrSyntax) (.tail _ (.tail _ (.tail _ (.tail _ (.tail _ (.head _)))))))⟩
    · exact ⟨by decide, cellOf g1 gt1 (Lib.laidMet.reads hL (n := "strconv.ErrRange") (d := Rows.laid_strconv_ErrRange) (.tail _ (.tail _ (.tail _ (.tail _ (.head _))))))⟩
  · intro x hx
    simp only [Tryz.gtL, List.mem_cons, List.mem_nil_iff, or_false] at hx
    rcases hx with rfl | rfl | rfl
    · have hv : Lib.VarReads Tryz.prog W "internal/strconv.uint64pow10" (.agg (([1, 10, 100, 1000, 10000, 100000, 1000000, 10000000, 100000000, 1000000000, 10000000000, 100000000000, 1000000000000, 10000000000000, 100000000000000, 1000000000000000, 10000000000000000, 100000000000000000, 1000000000000000000, 10000000000000000000] : List Int).map fun c => .lit (.int .u64 c))) := Lib.laidMet.reads hL (n := "internal/strconv.uint64pow10") (d := Rows.laid_internal_strconv_uint64pow10) (.tail _ (.tail _ (.head _)))
      have hc := tab_cells (l := [1, 10, 100, 1000, 10000, 100000, 1000000, 10000000, 100000000, 1000000000, 10000000000, 100000000000, 1000000000000, 10000000000000, 100000000000000, 1000000000000000, 10000000000000000, 100000000000000000, 1000000000000000000, 10000000000000000000]) tg3 tt3 Tryz.underlying465 Tryz.underlying313 tc3 hv
      exact tab_one hc (by decide)
    · have hv : Lib.VarReads Tryz.prog W "math/bits.deBruijn32tab" (.agg (([0, 1, 28, 2, 29, 14, 24, 3, 30, 22, 20, 15, 25, 17, 4, 8, 31, 27, 13, 23, 21, 19, 16, 7, 26, 12, 18, 6, 11, 5, 10, 9] : List Int).map fun c => .lit (.int .u8 c))) := Lib.laidMet.reads hL (n := "math/bits.deBruijn32tab") (d := Rows.laid_math_bits_deBruijn32tab) (.head _)
      have hc := tab_cells (l := [0, 1, 28, 2, 29, 14, 24, 3, 30, 22, 20, 15, 25, 17, 4, 8, 31, 27, 13, 23, 21, 19, 16, 7, 26, 12, 18, 6, 11, 5, 10, 9]) tg6 tt6 Tryz.underlying476 Tryz.underlying5 tc6 hv
      exact tab_one hc (by decide)
    · have hv : Lib.VarReads Tryz.prog W "math/bits.deBruijn64tab" (.agg (([0, 1, 56, 2, 57, 49, 28, 3, 61, 58, 42, 50, 38, 29, 17, 4, 62, 47, 59, 36, 45, 43, 51, 22, 53, 39, 33, 30, 24, 18, 12, 5, 63, 55, 48, 27, 60, 41, 37, 16, 46, 35, 44, 21, 52, 32, 23, 11, 54, 26, 40, 15, 34, 20, 31, 10, 25, 14, 19, 9, 13, 8, 7, 6] : List Int).map fun c => .lit (.int .u8 c))) := Lib.laidMet.reads hL (n := "math/bits.deBruijn64tab") (d := Rows.laid_math_bits_deBruijn64tab) (.tail _ (.head _))
      have hc := tab_cells (l := [0, 1, 56, 2, 57, 49, 28, 3, 61, 58, 42, 50, 38, 29, 17, 4, 62, 47, 59, 36, 45, 43, 51, 22, 53, 39, 33, 30, 24, 18, 12, 5, 63, 55, 48, 27, 60, 41, 37, 16, 46, 35, 44, 21, 52, 32, 23, 11, 54, 26, 40, 15, 34, 20, 31, 10, 25, 14, 19, 9, 13, 8, 7, 6]) tg7 tt7 Tryz.underlying477 Tryz.underlying5 tc7 hv
      exact tab_one hc (by decide)

theorem lifted (os : Os) (started : os.Started) (H : Type) (enc : TypeId × Value → H) :
    ReturnsInHanded {} Tryz.checked os 3 .any (fun w args => (Rows.sourceAllSpec.pre enc Tryz.prog Tryz.f3 [] false w args ∧ laidMetH Tryz.prog Rows.sourceAllRow.laid w) ∧ sizedMet enc Tryz.prog Tryz.f3 (OpenSpec.ofChange Rows.sourceAllSpec) false w args)
      (Rows.sourceAllSpec.post enc Tryz.prog Tryz.f3 false true false false) := by
  refine returnsInHanded_of_change_and (C := Tryz.checked) (X := fun w _ => laidMetH Tryz.prog Rows.sourceAllRow.laid w) (fun _ _ _ hh h => h.of_heap hh) own started (by kernel_rfl) Tryz.func3
    (ChangeSpec.witness_shaped (enc := enc) (C := Tryz.checked) (os := os) (X := fun w _ => laidMetH Tryz.prog Rows.sourceAllRow.laid w) false (World.laidAll Tryz.prog os Rows.sourceAllRow.laid) #[.slice none 0 0, .slice none 0 0] 8 (World.laidAll_os _ _ _)
      (World.shaped_of_ZipB (by kernel_rfl) (by kernel_rfl)) (by kernel_rfl) (by kernel_rfl) (by kernel_rfl)
      (by rw [MakeChecks.laidMetH_plain _ _ _ (by kernel_rfl)]; exact laidMet_laidAll _ (by kernel_rfl) (by kernel_rfl))) ?_
  intro W base args ds gs before hval0 hW _ _ hL _
  have hval : ∀ (j : Nat) t v, Tryz.f3.params[j]? = some t → args[j]? = some v → Value.okWide Tryz.prog W .any base t v := hval0
  have hW' := hW
  obtain ⟨p, q, hA0, hV, rfl, hfz, hnd⟩ := hW
  have hA : DataW.TrodAll enc Tryz.prog W 0 (fun _ => true) true Tryz.f3.params.toList args.toList ds p := hA0
  rw [Tryz.params3] at hA hval
  have hAk := hA
  obtain ⟨v0, v1, d0, d1, p0, p1, rfl, rfl, rfl, h0, h1⟩ := trodAll_two hA
  obtain ⟨rfl, rfl⟩ := trodVars_none hV
  obtain ⟨a0, m0, c0, rfl⟩ := okWide_slice Tryz.underlying22 (hval 0 22 v0 rfl rfl)
  obtain ⟨V0, S0, b0, T0⟩ := slc_of_trod Tryz.kids Tryz.underlying22 (d := 10) (ks := [.int .i64, .int .i64, .int .i64]) flat29 (by rw [Tryz.nty]; decide) cells29 (by decide) h0
  have S0' : SlcOk W a0 m0 c0 3 (fun i => [.int .i64 (if i < m0 then numAt V0 0 i else 0), .int .i64 (if i < m0 then numAt V0 1 i else 0), .int .i64 (if i < m0 then numAt V0 2 i else 0)]) := S0.as fun i hi => by
    try simp only [if_pos hi]
    refine typed_eq (T0 i hi) rfl fun t v hv => ?_
    rcases t with _ | _ | _ | t
    · rw [numAt_eq (T0 i hi) (t := 0) rfl] at hv; cases hv; rfl
    · rw [numAt_eq (T0 i hi) (t := 1) rfl] at hv; cases hv; rfl
    · rw [numAt_eq (T0 i hi) (t := 2) rfl] at hv; cases hv; rfl
    · have h1 := (List.getElem?_eq_some_iff.1 hv).1
      rw [(T0 i hi).1] at h1
      first
        | (simp at h1; done)
        | (simp only [List.length_cons, List.length_nil] at h1; omega)
  have b0' : (m0 : Int) < 9223372036854775808 := by have h2 := b0; unfold maxLen at h2; omega
  obtain ⟨a1, m1, c1, rfl⟩ := okWide_slice Tryz.underlying23 (hval 1 23 v1 rfl rfl)
  obtain ⟨V1, S1, b1, T1⟩ := slc_of_trod Tryz.kids Tryz.underlying23 (d := 10) (ks := [.int .i64, .int .i64]) flat31 (by rw [Tryz.nty]; decide) cells31 (by decide) h1
  have S1' : SlcOk W a1 m1 c1 2 (fun i => [.int .i64 (if i < m1 then numAt V1 0 i else 0), .int .i64 (if i < m1 then numAt V1 1 i else 0)]) := S1.as fun i hi => by
    try simp only [if_pos hi]
    refine typed_eq (T1 i hi) rfl fun t v hv => ?_
    rcases t with _ | _ | t
    · rw [numAt_eq (T1 i hi) (t := 0) rfl] at hv; cases hv; rfl
    · rw [numAt_eq (T1 i hi) (t := 1) rfl] at hv; cases hv; rfl
    · have h1 := (List.getElem?_eq_some_iff.1 hv).1
      rw [(T1 i hi).1] at h1
      first
        | (simp at h1; done)
        | (simp only [List.length_cons, List.length_nil] at h1; omega)
  have b1' : (m1 : Int) < 9223372036854775808 := by have h2 := b1; unfold maxLen at h2; omega
  clear hA0 hval0
  simp only [List.append_nil] at hW'
  rw [MakeChecks.laidMetH_plain _ _ _ (by kernel_rfl)] at hL
  refine (Zw.walk S0' b0' (numAt_r64 T0 (t := 0) rfl) (numAt_r64 T0 (t := 1) rfl) (numAt_r64 T0 (t := 2) rfl) S1' b1' (numAt_r64 T1 (t := 0) rfl) (numAt_r64 T1 (t := 1) rfl) (cells W hL)).mono fun e W' ⟨he, hb⟩ => ?_
  subst he
  have old : ∀ x ∈ p0 ++ p1, x.block < W.heap.size := fun x hx => DataW.TrodAll.lt hAk x (by simpa using hx)
  have stay := trodAll_stays (w' := W') (sp' := fun b => decide (b < W.heap.size)) Tryz.kids (fun {t e} h1 h2 => Tryz.full t e h1 h2) (by rw [Tryz.nty]; decide) hAk (fun x hx => sameAt_of_below hb (old x (by simpa using hx))) (fun x hx => by simpa using old x (by simpa using hx))
  exact ⟨_, rfl, _, _, _, [], _, [], hW', trodAll_mk1 (shut_bool Tryz.underlying4 _), stay, rfl, hb.frame _, fun h => by cases h⟩

theorem over : Rows.sourceAllRow.holds Tryz.pinned (OpenSpec.ofChange Rows.sourceAllSpec) :=
  OpenClaim.holds_of_wide 3 Tryz.f3 rfl rfl rfl rfl rfl rfl rfl ⟨rfl, rfl, rfl, rfl, rfl⟩ rfl rfl rfl rfl rfl (by kernel_rfl) Tryz.func3 facts
    (of_decide_eq_true (by kernel_rfl)) (by unfold Func.isWrapper; first | (rw [if_pos (by decide +kernel)]; kernel_rfl) | (rw [if_neg (by decide +kernel)]; exact ⟨rfl, rfl⟩))
    (fun os started H enc _ => lifted os started H enc)

theorem proved : Rows.SourceAllCardSaid :=
  Claim7.holds_tied_plain_at .later [] [.data, .data, .data, .data, .sentinel, .sentinel, .pinned] true (true, "4e7b4c687bccaa8cd60434fd3dd49deee7be3151ba1531784cd7d02c650900de") true over (fun _ h => by cases h) c0 (fun _ h => by cases h) sourceAll_row_tie rfl ⟨rfl, rfl⟩ c1 rfl
    (fun f fn hf hfn => by
      obtain rfl : f = 3 := Option.some.inj (c2.symm.trans hf) |>.symm
      obtain rfl : fn = Tryz.f3 := (Option.some.inj (Tryz.func3.symm.trans hfn)).symm
      refine ⟨c3, fun j t ht => ?_⟩
      rw [Tryz.params3] at ht
      rcases j with _ | _ | j
      · have ht : some 22 = some t := ht
        cases ht; exact c5q22
      · have ht : some 23 = some t := ht
        cases ht; exact c5q23
      · simp at ht)
    c4
end Go.Proofs.YtcmfeakcdikjmaaGreatDoor.sourceAll
