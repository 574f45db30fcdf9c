/- Proved: the law 'KeepFlight' returns true, whatever its arguments are. No conditions. -/
import Derived.Test.YtfahjdpepgedpaaGreatDoorVSeatKeepFlightGl
import Derived.Test.YtfahjdpepgedpaaGreatDoorVSeatFactsKeepFlight
import Derived.Test.YtfahjdpepgedpaaGreatDoorVSeatKeepFlightFin
import Derived.Test.YtfahjdpepgedpaaGreatDoorVClose
import Derived.Test.YtfahjdpepgedpaaGreatDoorTie
import Derived.Test.YtfahjdpepgedpaaGreatDoorCards
import Derived.WalkKit
import Derived.ProofKit
import Derived.OpenShut
import Derived.Lay
import Derived.LaidOnce
import Derived.SevenTiedAt
import Derived.Carry
import Derived.ChangeMaps5

set_option linter.all false
namespace Go.Proofs
open Go Go.Vsx Go.RowKit
set_option maxRecDepth 1000000
theorem Zw.first : Zw.d0.sub 8 [] [] (idA 2) ⟨Tryz.f3.ntmps, argTm [ch 1000, ch 1001], Tryz.H0⟩ = true := by kernel_rfl
theorem Zw.body : Tryz.f3.body.isSome = true := by kernel_rfl
theorem Zw.room : Nat.ble 2 Tryz.f3.ntmps = true := by kernel_rfl
theorem Zw.walk {W : World} {a0 : Option Addr} {m0 c0 : Nat} {f0q0 : Nat → ByteArray} {n1 : Int} (h0 : SlcOk W a0 m0 c0 1 (fun i => [.string (f0q0 i)])) (b0 : (m0 : Int) < 9223372036854775808) (r1 : R64 n1) (htab : Zw.Need W) (hc : Globs W 8 Tryz.gsL Tryz.gtL) :
    Calls Tryz.prog 3 #[.slice a0 m0 c0, .int .i64 n1] W fun e W' => e = .returned (.bool true) ∧ Below W.heap.size W W' :=
  calls_of_nodeT (vals := [.slice a0 m0 c0, .int .i64 n1]) (args := [ch 1000, ch 1001]) (by omega) Tryz.func3 Zw.body (Nat.le_of_ble_eq_true Zw.room) hc rfl (VL.cons (.atom _ _ rfl) (VL.cons (.atom _ _ rfl) VL.nil)) Zw.first (Zw.n0 htab h0 b0 r1)
end Go.Proofs
namespace Go.Proofs.YtfahjdpepgedpaaGreatDoor.keepFlight
open Go.ChangeShapes Go.WideShapes Go.ChangeAt Go.RowKit Go.Vsx
set_option linter.unusedVariables false
set_option maxRecDepth 100000

theorem own : ownKnob Tryz.prog.godebug = none := by kernel_rfl
theorem g0 : Tryz.prog.globalNamed "strconv.ErrSyntax" = some 1 := by kernel_rfl
theorem g1 : Tryz.prog.globalNamed "strconv.ErrRange" = some 2 := by kernel_rfl
theorem gt0 : (Tryz.prog.globals[1]?).map (·.type) = some 177 := by kernel_rfl
theorem gt1 : (Tryz.prog.globals[2]?).map (·.type) = some 177 := by kernel_rfl

theorem cellOf {W : World} {n : String} {g : Nat} {nm : String} {d : DataW Unit} (hg : Tryz.prog.globalNamed n = some g) (ht : (Tryz.prog.globals[g]?).map (·.type) = some 177) (h : Lib.VarReads Tryz.prog W n (.iface nm d)) :
    ∃ x, W.cell? ⟨g, 0, none⟩ = some x ∧ x.oneCell' = true := by
  obtain ⟨g', t, cs, fuel, p, h1, h2, h3, h4⟩ := h
  obtain rfl := Option.some.inj (hg.symm.trans h1)
  obtain rfl := Option.some.inj (ht.symm.trans h2)
  obtain ⟨u, v, hcs⟩ := trod_iface_cell Tryz.underlying177 h4
  have := World.var?_cell hg h3 0
  refine ⟨.iface u v, ?_, rfl⟩
  rw [this, ← Array.getElem?_toList, hcs]; rfl


theorem cells (W : World) (hL : laidMet Tryz.prog Rows.keepFlightRow.laid W) : Globs W 8 Tryz.gsL Tryz.gtL := by
  constructor
  · intro g hg
    simp only [Tryz.gsL, List.mem_cons, List.mem_nil_iff, or_false] at hg
    rcases hg with rfl | rfl
    · exact ⟨by decide, cellOf g0 gt0 (Lib.laidMet.reads hL (n := "strconv.ErrSyntax") (d := Rows.laid_strconv_ErrSyntax) (.tail _ (.tail _ (.tail _ (.tail _ (.tail _ (.head _)))))))⟩
    · exact ⟨by decide, cellOf g1 gt1 (Lib.laidMet.reads hL (n := "strconv.ErrRange") (d := Rows.laid_strconv_ErrRange) (.tail _ (.tail _ (.tail _ (.tail _ (.head _))))))⟩
  · intro x hx
    simp only [Tryz.gtL, List.mem_cons, List.mem_nil_iff, or_false] at hx
    all_goals exact hx.elim

theorem tabG : Tryz.prog.globalNamed "internal/strconv.uint64pow10" = some 3 := by kernel_rfl
theorem tabT : (Tryz.prog.globals[3]?).map (·.type) = some 375 := by kernel_rfl
theorem tabU : ∃ e, Tryz.prog.underlying 375 = some (.array 20 e) ∧ Tryz.prog.underlying e = some (.int .u64) ∧ Tryz.prog.cellsOf e = 1 := ⟨_, Tryz.underlying375, by kernel_rfl, by kernel_rfl⟩
theorem tabC : Tryz.prog.cellsOf 375 = 20 := by kernel_rfl
theorem tab (W : World) (hL : laidMet Tryz.prog Rows.keepFlightRow.laid W) : Lib.TabIs Tryz.prog W "internal/strconv.uint64pow10" .u64 Lib.pow10Tab := by
  obtain ⟨e, h1, h2, h3⟩ := tabU
  exact tabIs_of_reads tabG tabT h1 h2 h3 tabC (Lib.laidMet.reads hL (n := "internal/strconv.uint64pow10") (d := Rows.laid_internal_strconv_uint64pow10) (.tail _ (.tail _ (.head _))))
theorem cellI {W : World} {n : String} {g : Nat} {nm : String} {d : DataW Unit} (hg : Tryz.prog.globalNamed n = some g) (ht : (Tryz.prog.globals[g]?).map (·.type) = some 177) (h : Lib.VarReads Tryz.prog W n (.iface nm d)) :
    ∃ u v, W.cell? ⟨g, 0, none⟩ = some (.iface u v) := by
  obtain ⟨g', t, cs, fuel, p, h1, h2, h3, h4⟩ := h
  obtain rfl := Option.some.inj (hg.symm.trans h1)
  obtain rfl := Option.some.inj (ht.symm.trans h2)
  obtain ⟨u, v, hcs⟩ := trod_iface_cell Tryz.underlying177 h4
  have := World.var?_cell hg h3 0
  refine ⟨u, v, ?_⟩
  rw [this, ← Array.getElem?_toList, hcs]; rfl
theorem need (W : World) (hL : laidMet Tryz.prog Rows.keepFlightRow.laid W) : Zw.Need W :=
  ⟨tab W hL, cellI g0 gt0 (Lib.laidMet.reads hL (n := "strconv.ErrSyntax") (d := Rows.laid_strconv_ErrSyntax) (.tail _ (.tail _ (.tail _ (.tail _ (.tail _ (.head _))))))), cellI g1 gt1 (Lib.laidMet.reads hL (n := "strconv.ErrRange") (d := Rows.laid_strconv_ErrRange) (.tail _ (.tail _ (.tail _ (.tail _ (.head _))))))⟩

theorem lifted (os : Os) (started : os.Started) (H : Type) (enc : TypeId × Value → H) :
    ReturnsInHanded {} Tryz.checked os 3 .any (fun w args => (Rows.keepFlightSpec.pre enc Tryz.prog Tryz.f3 [] false w args ∧ laidMetH Tryz.prog Rows.keepFlightRow.laid w) ∧ sizedMet enc Tryz.prog Tryz.f3 (OpenSpec.ofChange Rows.keepFlightSpec) false w args)
      (Rows.keepFlightSpec.post enc Tryz.prog Tryz.f3 false true false false) := by
  refine returnsInHanded_of_change_and (C := Tryz.checked) (X := fun w _ => laidMetH Tryz.prog Rows.keepFlightRow.laid w) (fun _ _ _ hh h => h.of_heap hh) own started (by kernel_rfl) Tryz.func3
    (ChangeSpec.witness_shaped (enc := enc) (C := Tryz.checked) (os := os) (X := fun w _ => laidMetH Tryz.prog Rows.keepFlightRow.laid w) false (World.laidAll Tryz.prog os Rows.keepFlightRow.laid) #[.slice none 0 0, .int .i64 0] 8 (World.laidAll_os _ _ _)
      (World.shaped_of_ZipB (by kernel_rfl) (by kernel_rfl)) (by kernel_rfl) (by kernel_rfl) (by kernel_rfl)
      (by rw [MakeChecks.laidMetH_plain _ _ _ (by kernel_rfl)]; exact laidMet_laidAll _ (by kernel_rfl) (by kernel_rfl))) ?_
  intro W base args ds gs before hval0 hW _ _ hL _
  have hval : ∀ (j : Nat) t v, Tryz.f3.params[j]? = some t → args[j]? = some v → Value.okWide Tryz.prog W .any base t v := hval0
  have hW' := hW
  obtain ⟨p, q, hA0, hV, rfl, hfz, hnd⟩ := hW
  have hA : DataW.TrodAll enc Tryz.prog W 0 (fun _ => true) true Tryz.f3.params.toList args.toList ds p := hA0
  rw [Tryz.params3] at hA hval
  have hAk := hA
  obtain ⟨v0, v1, d0, d1, p0, p1, rfl, rfl, rfl, h0, h1⟩ := trodAll_two hA
  obtain ⟨rfl, rfl⟩ := trodVars_none hV
  obtain ⟨a0, m0, c0, rfl⟩ := okWide_slice Tryz.underlying22 (hval 0 22 v0 rfl rfl)
  obtain ⟨V0, S0, b0, T0⟩ := slc_of_trod Tryz.kids Tryz.underlying22 (d := 10) (ks := [.string]) flat9 (by rw [Tryz.nty]; decide) cells9 (by decide) h0
  have S0' : SlcOk W a0 m0 c0 1 (fun i => [.string (strAt V0 0 i)]) := S0.as fun i hi => by
    try simp only [if_pos hi]
    refine typed_eq (T0 i hi) rfl fun t v hv => ?_
    rcases t with _ | t
    · rw [strAt_eq (T0 i hi) (t := 0) rfl] at hv; cases hv; rfl
    · have h1 := (List.getElem?_eq_some_iff.1 hv).1
      rw [(T0 i hi).1] at h1
      first
        | (simp at h1; done)
        | (simp only [List.length_cons, List.length_nil] at h1; omega)
  have b0' : (m0 : Int) < 9223372036854775808 := by have h2 := b0; unfold maxLen at h2; omega
  obtain ⟨n1, rfl, rfl, rfl, w1⟩ := open_int Tryz.underlying3 (hval 1 3 v1 rfl rfl) h1
  clear hA0 hval0
  simp only [List.append_nil] at hW'
  rw [MakeChecks.laidMetH_plain _ _ _ (by kernel_rfl)] at hL
  refine (Zw.walk S0' b0' (r64_of_wf w1) (need W hL) (cells W hL)).mono fun e W' ⟨he, hb⟩ => ?_
  subst he
  have old : ∀ x ∈ p0 ++ [], x.block < W.heap.size := fun x hx => DataW.TrodAll.lt hAk x (by simpa using hx)
  have stay := trodAll_stays (w' := W') (sp' := fun b => decide (b < W.heap.size)) Tryz.kids (fun {t e} h1 h2 => Tryz.full t e h1 h2) (by rw [Tryz.nty]; decide) hAk (fun x hx => sameAt_of_below hb (old x (by simpa using hx))) (fun x hx => by simpa using old x (by simpa using hx))
  exact ⟨_, rfl, _, _, _, [], _, [], hW', trodAll_mk1 (shut_bool Tryz.underlying4 _), stay, rfl, hb.frame _, fun h => by cases h⟩

theorem over : Rows.keepFlightRow.holds Tryz.pinned (OpenSpec.ofChange Rows.keepFlightSpec) :=
  OpenClaim.holds_of_wide 3 Tryz.f3 rfl rfl rfl rfl rfl rfl rfl ⟨rfl, rfl, rfl, rfl, rfl⟩ rfl rfl rfl rfl rfl (by kernel_rfl) Tryz.func3 facts
    (of_decide_eq_true (by kernel_rfl)) (by unfold Func.isWrapper; first | (rw [if_pos (by decide +kernel)]; kernel_rfl) | (rw [if_neg (by decide +kernel)]; exact ⟨rfl, rfl⟩))
    (fun os started H enc _ => lifted os started H enc)

theorem proved : Rows.KeepFlightCardSaid :=
  Claim7.holds_tied_plain_at .later [] [.data, .data, .data, .data, .sentinel, .sentinel, .pinned] true (true, "fc5a9860ad75973ae2a0edacfdcd27f2729fda790623de60f2da3348ce25d459") true over (fun _ h => by cases h) c0 (fun _ h => by cases h) keepFlight_row_tie rfl ⟨rfl, rfl⟩ c1 rfl
    (fun f fn hf hfn => by
      obtain rfl : f = 3 := Option.some.inj (c2.symm.trans hf) |>.symm
      obtain rfl : fn = Tryz.f3 := (Option.some.inj (Tryz.func3.symm.trans hfn)).symm
      refine ⟨c3, fun j t ht => ?_⟩
      rw [Tryz.params3] at ht
      rcases j with _ | _ | j
      · have ht : some 22 = some t := ht
        cases ht; exact c5q22
      · have ht : some 3 = some t := ht
        cases ht; exact c5q3
      · simp at ht)
    c4
end Go.Proofs.YtfahjdpepgedpaaGreatDoor.keepFlight
