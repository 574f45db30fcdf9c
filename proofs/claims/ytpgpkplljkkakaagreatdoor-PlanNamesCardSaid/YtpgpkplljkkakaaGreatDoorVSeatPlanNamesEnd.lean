/- Proved: the law 'PlanNames' returns true, whatever its arguments are. No conditions. -/
import Derived.Test.YtpgpkplljkkakaaGreatDoorVSeatPlanNamesGl
import Derived.Test.YtpgpkplljkkakaaGreatDoorVSeatFactsPlanNames
import Derived.Test.YtpgpkplljkkakaaGreatDoorVSeatPlanNamesFin
import Derived.Test.YtpgpkplljkkakaaGreatDoorVClose
import Derived.Test.YtpgpkplljkkakaaGreatDoorTie
import Derived.Test.YtpgpkplljkkakaaGreatDoorCards
import Derived.WalkKit
import Derived.ProofKit
import Derived.OpenShut
import Derived.Lay
import Derived.LaidOnce
import Derived.SevenTiedAt
import Derived.Carry
import Derived.ChangeMaps5
import Derived.Test.YtpgpkplljkkakaaGreatDoorVFive
set_option linter.all false
namespace Go.Proofs
open Go Go.Vsx Go.RowKit
set_option maxRecDepth 1000000
theorem Zw.first : Zw.d0.sub 8 [] [] (idA 5) ⟨Tryz.f5.ntmps, argTm [ch 1000, ch 1001, ch 1002, ch 1003, ch 1004], Tryz.H0⟩ = true := by kernel_rfl
theorem Zw.body : Tryz.f5.body.isSome = true := by kernel_rfl
theorem Zw.room : Nat.ble 5 Tryz.f5.ntmps = true := by kernel_rfl
theorem Zw.walk {W : World} {n0 : Int} {n1 : Int} {n2 : Int} {n3 : Int} {s4 : ByteArray} (r0 : R64 n0) (r1 : R64 n1) (r2 : R64 n2) (r3 : R64 n3) (htab : Zw.Need W) (hc : Globs W 8 Tryz.gsL Tryz.gtL) :
    Calls Tryz.prog 5 #[.int .i64 n0, .int .i64 n1, .int .i64 n2, .int .i64 n3, .string s4] W fun e W' => e = .returned (.bool true) ∧ Below W.heap.size W W' :=
  calls_of_nodeT (vals := [.int .i64 n0, .int .i64 n1, .int .i64 n2, .int .i64 n3, .string s4]) (args := [ch 1000, ch 1001, ch 1002, ch 1003, ch 1004]) (by omega) Tryz.func5 Zw.body (Nat.le_of_ble_eq_true Zw.room) hc rfl (VL.cons (.atom _ _ rfl) (VL.cons (.atom _ _ rfl) (VL.cons (.atom _ _ rfl) (VL.cons (.atom _ _ rfl) (VL.cons (.atom _ _ rfl) VL.nil))))) Zw.first (Zw.n0 htab)
end Go.Proofs
namespace Go.Proofs.YtpgpkplljkkakaaGreatDoor.planNames
open Go.ChangeShapes Go.WideShapes Go.ChangeAt Go.RowKit Go.Vsx
set_option linter.unusedVariables false
set_option maxRecDepth 100000

theorem own : ownKnob Tryz.prog.godebug = none := by kernel_rfl
theorem g0 : Tryz.prog.globalNamed "strconv.ErrSyntax" = some 0 := by kernel_rfl
theorem g1 : Tryz.prog.globalNamed "strconv.ErrRange" = some 1 := by kernel_rfl
theorem gt0 : (Tryz.prog.globals[0]?).map (·.type) = some 86 := by kernel_rfl
theorem gt1 : (Tryz.prog.globals[1]?).map (·.type) = some 86 := by kernel_rfl

theorem cellOf {W : World} {n : String} {g : Nat} {nm : String} {d : DataW Unit} (hg : Tryz.prog.globalNamed n = some g) (ht : (Tryz.prog.globals[g]?).map (·.type) = some 86) (h : Lib.VarReads Tryz.prog W n (.iface nm d)) :
    ∃ x, W.cell? ⟨g, 0, none⟩ = some x ∧ x.oneCell' = true := by
  obtain ⟨g', t, cs, fuel, p, h1, h2, h3, h4⟩ := h
  obtain rfl := Option.some.inj (hg.symm.trans h1)
  obtain rfl := Option.some.inj (ht.symm.trans h2)
  obtain ⟨u, v, hcs⟩ := trod_iface_cell Tryz.underlying86 h4
  have := World.var?_cell hg h3 0
  refine ⟨.iface u v, ?_, rfl⟩
  rw [this, ← Array.getElem?_toList, hcs]; rfl


theorem cells (W : World) (hL : laidMet Tryz.prog Rows.planNamesRow.laid W) : Globs W 8 Tryz.gsL Tryz.gtL := by
  constructor
  · intro g hg
    simp only [Tryz.gsL, List.mem_cons, List.mem_nil_iff, or_false] at hg
    rcases hg with rfl | rfl
    · exact ⟨by decide, cellOf g0 gt0 (Lib.laidMet.reads hL (n := "strconv.ErrSyntax") (d := Rows.laid_strconv_ErrSyntax) (.tail _ (.tail _ (.tail _ (.tail _ (.tail _ (.head _)))))))⟩
    · exact ⟨by decide, cellOf g1 gt1 (Lib.laidMet.reads hL (n := "strconv.ErrRange") (d := Rows.laid_strconv_ErrRange) (.tail _ (.tail _ (.tail _ (.tail _ (.head _))))))⟩
  · intro x hx
    simp only [Tryz.gtL, List.mem_cons, List.mem_nil_iff, or_false] at hx
    all_goals exact hx.elim

theorem tabG : Tryz.prog.globalNamed "internal/strconv.uint64pow10" = some 3 := by kernel_rfl
theorem tabT : (Tryz.prog.globals[3]?).map (·.type) = some 352 := by kernel_rfl
theorem tabU : ∃ e, Tryz.prog.underlying 352 = some (.array 20 e) ∧ Tryz.prog.underlying e = some (.int .u64) ∧ Tryz.prog.cellsOf e = 1 := ⟨_, Tryz.underlying352, by kernel_rfl, by kernel_rfl⟩
theorem tabC : Tryz.prog.cellsOf 352 = 20 := by kernel_rfl
theorem tab (W : World) (hL : laidMet Tryz.prog Rows.planNamesRow.laid W) : Lib.TabIs Tryz.prog W "internal/strconv.uint64pow10" .u64 Lib.pow10Tab := by
  obtain ⟨e, h1, h2, h3⟩ := tabU
  exact tabIs_of_reads tabG tabT h1 h2 h3 tabC (Lib.laidMet.reads hL (n := "internal/strconv.uint64pow10") (d := Rows.laid_internal_strconv_uint64pow10) (.tail _ (.tail _ (.head _))))

theorem cellI {W : World} {n : String} {g : Nat} {nm : String} {d : DataW Unit} (hg : Tryz.prog.globalNamed n = some g) (ht : (Tryz.prog.globals[g]?).map (·.type) = some 86) (h : Lib.VarReads Tryz.prog W n (.iface nm d)) :
    ∃ u v, W.cell? ⟨g, 0, none⟩ = some (.iface u v) := by
  obtain ⟨g', t, cs, fuel, p, h1, h2, h3, h4⟩ := h
  obtain rfl := Option.some.inj (hg.symm.trans h1)
  obtain rfl := Option.some.inj (ht.symm.trans h2)
  obtain ⟨u, v, hcs⟩ := trod_iface_cell Tryz.underlying86 h4
  have := World.var?_cell hg h3 0
  refine ⟨u, v, ?_⟩
  rw [this, ← Array.getElem?_toList, hcs]; rfl
theorem gS : Tryz.prog.globalNamed "strconv.ErrSyntax" = some 0 := by kernel_rfl
theorem gR : Tryz.prog.globalNamed "strconv.ErrRange" = some 1 := by kernel_rfl
theorem gtS : (Tryz.prog.globals[0]?).map (·.type) = some 86 := by kernel_rfl
theorem gtR : (Tryz.prog.globals[1]?).map (·.type) = some 86 := by kernel_rfl
theorem need (W : World) (hL : laidMet Tryz.prog Rows.planNamesRow.laid W) (hsh : W.ShapedOpen Tryz.prog) : Zw.Need W :=
  ⟨tab W hL, Tryz.laysM146.s1_3 W hsh, cellI gS gtS (Lib.laidMet.reads hL (n := "strconv.ErrSyntax") (d := Rows.laid_strconv_ErrSyntax) (.tail _ (.tail _ (.tail _ (.tail _ (.tail _ (.head _))))))), cellI gR gtR (Lib.laidMet.reads hL (n := "strconv.ErrRange") (d := Rows.laid_strconv_ErrRange) (.tail _ (.tail _ (.tail _ (.tail _ (.head _))))))⟩

theorem lifted (os : Os) (started : os.Started) (H : Type) (enc : TypeId × Value → H) :
    ReturnsInHanded {} Tryz.checked os 5 .any (fun w args => (Rows.planNamesSpec.pre enc Tryz.prog Tryz.f5 [] false w args ∧ laidMetH Tryz.prog Rows.planNamesRow.laid w) ∧ sizedMet enc Tryz.prog Tryz.f5 (OpenSpec.ofChange Rows.planNamesSpec) false w args)
      (Rows.planNamesSpec.post enc Tryz.prog Tryz.f5 false true false false) := by
  refine returns_and_shaped (C := Tryz.checked) (X := fun w _ => laidMetH Tryz.prog Rows.planNamesRow.laid w) (fun _ _ _ hh h => h.of_heap hh) own started (by kernel_rfl) Tryz.func5
    (ChangeSpec.witness_shaped (enc := enc) (C := Tryz.checked) (os := os) (X := fun w _ => laidMetH Tryz.prog Rows.planNamesRow.laid w) false (World.laidAll Tryz.prog os Rows.planNamesRow.laid) #[.int .i64 0, .int .i64 0, .int .i64 0, .int .i64 0, .string .empty] 8 (World.laidAll_os _ _ _)
      (World.shaped_of_ZipB (by kernel_rfl) (by kernel_rfl)) (by kernel_rfl) (by kernel_rfl) (by kernel_rfl)
      (by rw [MakeChecks.laidMetH_plain _ _ _ (by kernel_rfl)]; exact laidMet_laidAll _ (by kernel_rfl) (by kernel_rfl))) ?_
  intro W base args ds gs before hval0 hW _ _ hL hsh _
  have hval : ∀ (j : Nat) t v, Tryz.f5.params[j]? = some t → args[j]? = some v → Value.okWide Tryz.prog W .any base t v := hval0
  have hW' := hW
  obtain ⟨p, q, hA0, hV, rfl, hfz, hnd⟩ := hW
  have hA : DataW.TrodAll enc Tryz.prog W 0 (fun _ => true) true Tryz.f5.params.toList args.toList ds p := hA0
  rw [Tryz.params5] at hA hval
  have hAk := hA
  obtain ⟨v0, v1, v2, v3, v4, d0, d1, d2, d3, d4, p0, p1, p2, p3, p4, rfl, rfl, rfl, h0, h1, h2, h3, h4⟩ := trodAll_five hA
  obtain ⟨rfl, rfl⟩ := trodVars_none hV
  obtain ⟨n0, rfl, rfl, rfl, w0⟩ := open_int Tryz.underlying3 (hval 0 3 v0 rfl rfl) h0
  obtain ⟨n1, rfl, rfl, rfl, w1⟩ := open_int Tryz.underlying3 (hval 1 3 v1 rfl rfl) h1
  obtain ⟨n2, rfl, rfl, rfl, w2⟩ := open_int Tryz.underlying3 (hval 2 3 v2 rfl rfl) h2
  obtain ⟨n3, rfl, rfl, rfl, w3⟩ := open_int Tryz.underlying3 (hval 3 3 v3 rfl rfl) h3
  obtain ⟨s4, rfl, rfl, rfl, w4⟩ := ChangeMaps.open_string Tryz.underlying9 (hval 4 9 v4 rfl rfl) h4
  clear hA0 hval0
  simp only [List.append_nil] at hW'
  rw [MakeChecks.laidMetH_plain _ _ _ (by kernel_rfl)] at hL
  refine (Zw.walk (r64_of_wf w0) (r64_of_wf w1) (r64_of_wf w2) (r64_of_wf w3) (need W hL hsh) (cells W hL)).mono fun e W' ⟨he, hb⟩ => ?_
  subst he
  exact ⟨_, rfl, _, _, _, [], [], [], hW', trodAll_mk1 (shut_bool Tryz.underlying4 _), trodAll_mk5 (shut_int Tryz.underlying3 w0) (shut_int Tryz.underlying3 w1) (shut_int Tryz.underlying3 w2) (shut_int Tryz.underlying3 w3) (ChangeMaps.shut_string Tryz.underlying9 w4), rfl, hb.frame _, fun h => by cases h⟩

theorem over : Rows.planNamesRow.holds Tryz.pinned (OpenSpec.ofChange Rows.planNamesSpec) :=
  OpenClaim.holds_of_wide 5 Tryz.f5 rfl rfl rfl rfl rfl rfl rfl ⟨rfl, rfl, rfl, rfl, rfl⟩ rfl rfl rfl rfl rfl (by kernel_rfl) Tryz.func5 facts
    (of_decide_eq_true (by kernel_rfl)) (by unfold Func.isWrapper; first | (rw [if_pos (by decide +kernel)]; kernel_rfl) | (rw [if_neg (by decide +kernel)]; exact ⟨rfl, rfl⟩))
    (fun os started H enc _ => lifted os started H enc)

theorem proved : Rows.PlanNamesCardSaid :=
  Claim7.holds_tied_plain_at .later [] [.data, .data, .data, .data, .sentinel, .sentinel, .pinned] true (true, "cd2410fd01ec86336f096e202a946355dfb5fcef80c20f55917d63cdab3df912") true over (fun _ h => by cases h) c0 (fun _ h => by cases h) planNames_row_tie rfl ⟨rfl, rfl⟩ c1 rfl
    (fun f fn hf hfn => by
      obtain rfl : f = 5 := Option.some.inj (c2.symm.trans hf) |>.symm
      obtain rfl : fn = Tryz.f5 := (Option.some.inj (Tryz.func5.symm.trans hfn)).symm
      refine ⟨c3, fun j t ht => ?_⟩
      rw [Tryz.params5] at ht
      rcases j with _ | _ | _ | _ | _ | j
      · have ht : some 3 = some t := ht
        cases ht; exact c5q3
      · have ht : some 3 = some t := ht
        cases ht; exact c5q3
      · have ht : some 3 = some t := ht
        cases ht; exact c5q3
      · have ht : some 3 = some t := ht
        cases ht; exact c5q3
      · have ht : some 9 = some t := ht
        cases ht; exact c5q9
      · simp at ht)
    c4
end Go.Proofs.YtpgpkplljkkakaaGreatDoor.planNames
