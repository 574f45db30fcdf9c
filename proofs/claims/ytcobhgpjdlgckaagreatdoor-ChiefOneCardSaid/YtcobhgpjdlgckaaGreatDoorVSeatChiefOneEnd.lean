/- Proved: the law 'ChiefOne' returns true, whatever its arguments are. No conditions. -/
import Derived.Test.YtcobhgpjdlgckaaGreatDoorVSeatChiefOneGl
import Derived.Test.YtcobhgpjdlgckaaGreatDoorVSeatFactsChiefOne
import Derived.Test.YtcobhgpjdlgckaaGreatDoorVSeatChiefOneFin
import Derived.Test.YtcobhgpjdlgckaaGreatDoorVClose
import Derived.Test.YtcobhgpjdlgckaaGreatDoorTie
import Derived.Test.YtcobhgpjdlgckaaGreatDoorCards
import Derived.WalkKit
import Derived.ProofKit
import Derived.OpenShut
import Derived.Lay
import Derived.LaidOnce
import Derived.SevenTiedAt
import Derived.Carry
set_option linter.all false
namespace Go.Proofs
open Go Go.Vsx Go.RowKit
set_option maxRecDepth 1000000
theorem Tryz.ChiefOne.first : Tryz.ChiefOne.d0.sub 8 [] [] (idA 3) ⟨Tryz.f3.ntmps, argTm [ch 1000, ch 1001, ch 1002], firstHeap 8 Tryz.gsL⟩ = true := by kernel_rfl
theorem Tryz.ChiefOne.body : Tryz.f3.body.isSome = true := by kernel_rfl
theorem Tryz.ChiefOne.room : Nat.ble 3 Tryz.f3.ntmps = true := by kernel_rfl
theorem Tryz.ChiefOne.walk {W : World} {n0 : Int} {n1 : Int} {n2 : Int} (r0 : R64 n0) (r1 : R64 n1) (r2 : R64 n2) (hc : ∀ g ∈ Tryz.gsL, g < 8 ∧ ∃ x, W.cell? ⟨g, 0, none⟩ = some x ∧ x.oneCell' = true) :
    Calls Tryz.prog 3 #[.int .i64 n0, .int .i64 n1, .int .i64 n2] W fun e W' => e = .returned (.bool true) ∧ Below W.heap.size W W' :=
  calls_of_node (vals := [.int .i64 n0, .int .i64 n1, .int .i64 n2]) (args := [ch 1000, ch 1001, ch 1002]) (by omega) Tryz.func3 Tryz.ChiefOne.body (Nat.le_of_ble_eq_true Tryz.ChiefOne.room) hc rfl (VL.cons (.atom _ _ rfl) (VL.cons (.atom _ _ rfl) (VL.cons (.atom _ _ rfl) VL.nil))) Tryz.ChiefOne.first (Tryz.ChiefOne.n0 r0 r1 r2)
end Go.Proofs
namespace Go.Proofs.YtcobhgpjdlgckaaGreatDoor.chiefOne
open Go.ChangeShapes Go.WideShapes Go.ChangeAt Go.RowKit Go.Vsx
set_option linter.unusedVariables false
set_option maxRecDepth 100000

theorem own : ownKnob Tryz.prog.godebug = none := by kernel_rfl
theorem g0 : Tryz.prog.globalNamed "strconv.ErrSyntax" = some 0 := by kernel_rfl
theorem g1 : Tryz.prog.globalNamed "strconv.ErrRange" = some 1 := by kernel_rfl
theorem gt0 : (Tryz.prog.globals[0]?).map (·.type) = some 306 := by kernel_rfl
theorem gt1 : (Tryz.prog.globals[1]?).map (·.type) = some 306 := by kernel_rfl

theorem cellOf {W : World} {n : String} {g : Nat} {nm : String} {d : DataW Unit} (hg : Tryz.prog.globalNamed n = some g) (ht : (Tryz.prog.globals[g]?).map (·.type) = some 306) (h : Lib.VarReads Tryz.prog W n (.iface nm d)) :
    ∃ x, W.cell? ⟨g, 0, none⟩ = some x ∧ x.oneCell' = true := by
  obtain ⟨g', t, cs, fuel, p, h1, h2, h3, h4⟩ := h
  obtain rfl := Option.some.inj (hg.symm.trans h1)
  obtain rfl := Option.some.inj (ht.symm.trans h2)
  obtain ⟨u, v, hcs⟩ := trod_iface_cell Tryz.underlying306 h4
  have := World.var?_cell hg h3 0
  refine ⟨.iface u v, ?_, rfl⟩
  rw [this, ← Array.getElem?_toList, hcs]; rfl

theorem cells (W : World) (hL : laidMet Tryz.prog Rows.chiefOneRow.laid W) : ∀ g ∈ Tryz.gsL, g < 8 ∧ ∃ x, W.cell? ⟨g, 0, none⟩ = some x ∧ x.oneCell' = true := by
  intro g hg
  simp only [Tryz.gsL, List.mem_cons, List.mem_nil_iff, or_false] at hg
  rcases hg with rfl | rfl
  · exact ⟨by decide, cellOf g0 gt0 (Lib.laidMet.reads hL (n := "strconv.ErrSyntax") (d := Rows.laid_strconv_ErrSyntax) (.tail _ (.tail _ (.tail _ (.tail _ (.tail _ (.head _)))))))⟩
  · exact ⟨by decide, cellOf g1 gt1 (Lib.laidMet.reads hL (n := "strconv.ErrRange") (d := Rows.laid_strconv_ErrRange) (.tail _ (.tail _ (.tail _ (.tail _ (.head _))))))⟩

theorem lifted (os : Os) (started : os.Started) (H : Type) (enc : TypeId × Value → H) :
    ReturnsInHanded {} Tryz.checked os 3 .any (fun w args => (Rows.chiefOneSpec.pre enc Tryz.prog Tryz.f3 [] false w args ∧ laidMetH Tryz.prog Rows.chiefOneRow.laid w) ∧ sizedMet enc Tryz.prog Tryz.f3 (OpenSpec.ofChange Rows.chiefOneSpec) false w args)
      (Rows.chiefOneSpec.post enc Tryz.prog Tryz.f3 false true false false) := by
  refine returnsInHanded_of_change_and (C := Tryz.checked) (X := fun w _ => laidMetH Tryz.prog Rows.chiefOneRow.laid w) (fun _ _ _ hh h => h.of_heap hh) own started (by kernel_rfl) Tryz.func3
    (ChangeSpec.witness_shaped (enc := enc) (C := Tryz.checked) (os := os) (X := fun w _ => laidMetH Tryz.prog Rows.chiefOneRow.laid w) false (World.laidAll Tryz.prog os Rows.chiefOneRow.laid) #[.int .i64 0, .int .i64 0, .int .i64 0] 8 (World.laidAll_os _ _ _)
      (World.shaped_of_ZipB (by kernel_rfl) (by kernel_rfl)) (by kernel_rfl) (by kernel_rfl) (by kernel_rfl)
      (by rw [MakeChecks.laidMetH_plain _ _ _ (by kernel_rfl)]; exact laidMet_laidAll _ (by kernel_rfl) (by kernel_rfl))) ?_
  intro W base args ds gs before hval0 hW _ _ hL _
  have hval : ∀ (j : Nat) t v, Tryz.f3.params[j]? = some t → args[j]? = some v → Value.okWide Tryz.prog W .any base t v := hval0
  have hW' := hW
  obtain ⟨p, q, hA0, hV, rfl, hfz, hnd⟩ := hW
  have hA : DataW.TrodAll enc Tryz.prog W 0 (fun _ => true) true Tryz.f3.params.toList args.toList ds p := hA0
  rw [Tryz.params3] at hA hval
  have hAk := hA
  obtain ⟨v0, v1, v2, d0, d1, d2, p0, p1, p2, rfl, rfl, rfl, h0, h1, h2⟩ := trodAll_three hA
  obtain ⟨rfl, rfl⟩ := trodVars_none hV
  obtain ⟨n0, rfl, rfl, rfl, w0⟩ := open_int Tryz.underlying3 (hval 0 3 v0 rfl rfl) h0
  obtain ⟨n1, rfl, rfl, rfl, w1⟩ := open_int Tryz.underlying3 (hval 1 3 v1 rfl rfl) h1
  obtain ⟨n2, rfl, rfl, rfl, w2⟩ := open_int Tryz.underlying3 (hval 2 3 v2 rfl rfl) h2
  clear hA0 hval0
  simp only [List.append_nil] at hW'
  rw [MakeChecks.laidMetH_plain _ _ _ (by kernel_rfl)] at hL
  refine (Tryz.ChiefOne.walk (r64_of_wf w0) (r64_of_wf w1) (r64_of_wf w2) (cells W hL)).mono fun e W' ⟨he, hb⟩ => ?_
  subst he
  exact ⟨_, rfl, _, _, _, [], [], [], hW', trodAll_mk1 (shut_bool Tryz.underlying4 _), trodAll_mk3 (shut_int Tryz.underlying3 w0) (shut_int Tryz.underlying3 w1) (shut_int Tryz.underlying3 w2), rfl, hb.frame _, fun h => by cases h⟩

theorem over : Rows.chiefOneRow.holds Tryz.pinned (OpenSpec.ofChange Rows.chiefOneSpec) :=
  OpenClaim.holds_of_wide 3 Tryz.f3 rfl rfl rfl rfl rfl rfl rfl ⟨rfl, rfl, rfl, rfl, rfl⟩ rfl rfl rfl rfl rfl (by kernel_rfl) Tryz.func3 facts
    (of_decide_eq_true (by kernel_rfl)) (by unfold Func.isWrapper; first | (rw [if_pos (by decide +kernel)]; kernel_rfl) | (rw [if_neg (by decide +kernel)]; exact ⟨rfl, rfl⟩))
    (fun os started H enc _ => lifted os started H enc)

theorem proved : Rows.ChiefOneCardSaid :=
  Claim7.holds_tied_plain_at .later [] [.data, .data, .data, .data, .sentinel, .sentinel, .pinned] true (true, "0d1ca2e5bef38cfdb180b36a4fe34262b43cbd571c4c4119a82a9a6803172c7d") true over (fun _ h => by cases h) c0 (fun _ h => by cases h) chiefOne_row_tie rfl ⟨rfl, rfl⟩ c1 rfl
    (fun f fn hf hfn => by
      obtain rfl : f = 3 := Option.some.inj (c2.symm.trans hf) |>.symm
      obtain rfl : fn = Tryz.f3 := (Option.some.inj (Tryz.func3.symm.trans hfn)).symm
      refine ⟨c3, fun j t ht => ?_⟩
      rw [Tryz.params3] at ht
      rcases j with _ | _ | _ | j
      · have ht : some 3 = some t := ht
        cases ht; exact c5q3
      · have ht : some 3 = some t := ht
        cases ht; exact c5q3
      · have ht : some 3 = some t := ht
        cases ht; exact c5q3
      · simp at ht)
    c4
end Go.Proofs.YtcobhgpjdlgckaaGreatDoor.chiefOne
