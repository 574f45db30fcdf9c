/- Proved: the law 'Names' of package remembrancerlaw0 returns true, whatever the world. Conditions: none beyond those of the given row. (The frame of the row's step was written by proof-skeleton.mjs.) -/
import Derived.Test.YtnebfkeaooblfaaRows
import Derived.WalkKit
import Derived.ProofKit
import Derived.OpenShut
import Derived.Deep.QuietTactic
import Derived.BigQuiet
namespace Go.Proofs.Ytnebfkeaooblfaa.names
open Go.ChangeShapes Go.WideShapes Go.ChangeAt Go.RowKit
set_option linter.unusedVariables false      -- a walk need not use every 'w<i>' (that an integer argument fits its kind)

theorem own : ownKnob Try.prog.godebug = none := by kernel_rfl

def Good (e : Ending) (w w' : World) : Prop := e = .returned (.bool true) ∧ Grown w w'
def Rel (vals : Array Value) (w : World) (i : Value) (w' : World) : Prop := ∃ k n : Nat, k ≤ 53 ∧ i = .int .i64 k ∧ w' = ((w.alloc (Obj.cells vals 3)).alloc (Obj.cells vals 3)).drewN n
set_option maxHeartbeats 4000000 in
set_option maxRecDepth 100000 in
theorem walk  (w : World) :
    Calls Try.prog 3 #[] w fun e w' => Good e w w' := by
  go_enter Try.func3, Try.ntmps3
  go_wp2
  generalize hv : (#[.int .i64 0, .int .i64 1, .int .i64 2, .int .i64 3, .int .i64 4, .int .i64 5, .int .i64 6, .int .i64 7, .int .i64 8, .int .i64 9, .int .i64 10, .int .i64 11, .int .i64 40, .int .i64 65536, .int .i64 4096, .int .i64 65536, .int .i64 3, .int .i64 3, .int .i64 4, .int .i64 8, .int .i64 60, .int .i64 4, .int .i64 4, .int .i64 100, .int .i64 8, .int .i64 10000, .int .i64 3, .int .i64 2000, .int .i64 1, .int .i64 2, .int .i64 3, .int .i64 4, .int .i64 5, .int .i64 6, .int .i64 1, .int .i64 2, .int .i64 3, .int .i64 4, .int .i64 5, .int .i64 6, .int .i64 7, .int .i64 8, .int .i64 1, .int .i64 2, .int .i64 3, .int .i64 4, .int .i64 5, .int .i64 6, .int .i64 7, .int .i64 8, .int .i64 9, .int .i64 10, .int .i64 11] : Array Value) = vals
  have hs : vals.size = 53 := by subst hv; rfl
  have hk : ∀ k, k < 53 → ∃ n, vals[k]? = some (Value.int .i64 n) := by
    have ha : (vals.toList.all fun v => match v with | .int .i64 _ => true | _ => false) = true := by subst hv; kernel_rfl
    intro k h
    rw [List.all_eq_true] at ha
    have := ha (vals[k]'(by omega)) (by simp)
    rw [Array.getElem?_eq_getElem (by omega)]
    split at this
    · rename_i n he; exact ⟨n, by rw [he]⟩
    · simp at this
  clear hv
  go_loopw [3] (fun i w' => Rel vals w i w') (fun i _ => 53 - (intOf i).toNat)
  case atStart => exact ⟨0, 0, by omega, rfl, rfl⟩
  case round =>
    obtain ⟨k, n0, hk53, rfl, rfl⟩ := hrel
    by_cases hlt : k < 53
    · obtain ⟨n, hn⟩ := hk k hlt
      have hlti : (k : Int) < 53 := by omega
      have hn' : vals[k]'(by omega) = Value.int .i64 n := by
        rw [Array.getElem?_eq_getElem (by omega)] at hn; exact Option.some.inj hn
      clear hn
      clear hk
      go_wp2
      go_quiet (fail)
      all_goals try go_wp2
      all_goals try go_round
      case rel => exact ⟨k + 1, n0 + nq, by omega, by go_num, rfl⟩
      case measure => simp [intOf]; omega
    · have hlti : ¬ (k : Int) < 53 := by omega
      clear hk
      go_wp2
      go_ret
      exact ⟨rfl, by repeat (first | exact Grown.refl _ | apply Grown.drew | apply Grown.alloc)⟩

/-! ### THE ROW's STEP: WRITTEN OUT: LEAVE IT -/
set_option maxRecDepth 100000 in
theorem lifted (os : Os) (started : os.Started) (H : Type) (enc : TypeId × Value → H) :
    ReturnsInHanded {} Try.checked os 3 .any (Rows.namesSpec.pre6 enc Try.prog Try.f3 Rows.namesRow.domain false) (Rows.namesSpec.post enc Try.prog Try.f3 false true false false) := by
  refine returnsInHanded_of_change (C := Try.checked) own started (by kernel_rfl) Try.func3
    (ChangeSpec.witness6 (enc := enc) (C := Try.checked) false ⟨#[], #[], []⟩ 8 (by kernel_rfl) (by kernel_rfl) (by kernel_rfl) (by kernel_rfl)) ?_
  intro W base args ds gs before hval0 hW hcnd _
  have hval : ∀ (j : Nat) t v, Try.f3.params[j]? = some t → args[j]? = some v → Value.okWide Try.prog W .any base t v := hval0
  have hW' := hW
  obtain ⟨p, q, hA0, hV, rfl, hfz, hnd⟩ := hW
  have hA : DataW.TrodAll enc Try.prog W 0 (fun _ => true) true Try.f3.params.toList args.toList ds p := hA0
  rw [Try.params3] at hA hval
  obtain ⟨rfl, rfl, rfl⟩ := trodAll_none hA
  obtain ⟨rfl, rfl⟩ := trodVars_none hV
  clear hA0 hval0
  simp only [List.append_nil] at hW'
  refine (walk  W).mono fun e W' ⟨he, hg⟩ => ?_
  subst he
  exact ⟨_, rfl, post_of_same (pa := []) (pv := []) hW' (fun _ _ _ => (trodAll_cons_mk (shut_bool Try.underlying4 _) trodAll_mk0)) (fun sp _ => rfl) (fun _ _ => rfl) rfl
    (hg.frame _) hg.2.1 (ok_one (by kernel_rfl) rfl (okWide_bool_mk Try.underlying4 _))⟩

theorem over : Rows.namesRow.holds Try.pinned (OpenSpec.ofChange Rows.namesSpec) :=
  OpenClaim.holds_of_wide 3 Try.f3 rfl rfl rfl rfl rfl rfl rfl ⟨rfl, rfl, rfl, rfl, rfl⟩ rfl rfl rfl rfl rfl (by kernel_rfl) Try.func3 (by kernel_rfl)
    (of_decide_eq_true (by kernel_rfl)) (by unfold Func.isWrapper; first | (rw [if_pos (by decide +kernel)]; kernel_rfl) | (rw [if_neg (by decide +kernel)]; exact ⟨rfl, rfl⟩))
    (fun os started H enc _ => lifted os started H enc)

/-- ████ THE STATEMENT ████ -/
theorem proved : Rows.NamesSaid :=
  over
end Go.Proofs.Ytnebfkeaooblfaa.names
