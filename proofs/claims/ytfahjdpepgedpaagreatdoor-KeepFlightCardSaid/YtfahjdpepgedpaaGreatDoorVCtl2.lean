/- Regions, code and calls. -/
import Derived.Test.YtfahjdpepgedpaaGreatDoorVDraw5
set_option linter.all false
namespace Go.Vsx
open Go Go.RowKit

noncomputable def okCode (E : Env) (ng : Nat) : Code → Bool
  | .region _ ops draw => okOps ng ops && (!draw || drawOk E ops)
  | .seq a b => okCode E ng a && okCode E ng b
  | .cond c a b => okOperand ng c && okCode E ng a && okCode E ng b
  | .block _ b => okCode E ng b
  | .loop b => okCode E ng b
  | _ => true

section
variable {P : Program} {E : Env} {G : GS} (T : TyOk P E) (X : XOk P E G)

include T X
theorem regA_ok {callF : FuncId → List Value → Heap → Option (Value × Heap)} (C : CallOk P G callF) {B : Nat} {W0 : World} {ops : Array Oper} {Q : Exit → Act → World → Prop} (hok : okOps G.ng ops = true) {σ' : St} :
    ∀ (l : List Oper) (k : Nat) (μ : Mu) (σ : St) (a : Act) (w : World), ops.toList.drop k = l → regA E callF ops.toList l σ = some σ' → SR μ σ a → HR B W0 μ σ.H w → GOk G B W0 μ →
    (∀ μ' a' w', μ.le μ' → SR μ' σ' a' → HR B W0 μ' σ'.H w' → Q .normal a' w') → wpOps P ops Q (List.range' k l.length) a w
  | [], k, μ, σ, a, w, _, h, sr, hr, g, hK => by
    simp only [regA, Option.some.injEq] at h
    subst h
    exact hK μ a w μ.le_refl sr hr
  | o :: r, k, μ, σ, a, w, hd, h, sr, hr, g, hK => by
    simp only [regA] at h
    split at h
    case h_2 => cases h
    case h_1 σ1 h1 =>
    have ho : ops[k]? = some o := by
      have : (ops.toList.drop k)[0]? = some o := by rw [hd]; rfl
      rw [List.getElem?_drop] at this
      simpa using this
    have hd2 : ops.toList.drop (k + 1) = r := by
      rw [← List.drop_drop, hd]; rfl
    simp only [List.length_cons, List.range'_succ]
    rw [wpOps_cons]
    refine stepA_ok T X C ho (okOps_spec hok ho) h1 sr hr g ?_
    intro μ' a' w' hle s1 r1
    exact regA_ok C hok r (k + 1) μ' σ1 a' w' hd2 h s1 r1 (g.mono hle) (fun μ2 a2 w2 l2 => hK μ2 a2 w2 (hle.trans l2))
omit T X

def toExit : AEx → Exit
  | .normal => .normal
  | .exit id => .exit id
  | .ret => .ret

def EnvF (P : Program) (E : Env) (ng : Nat) : Prop := ∀ f fn, E.ft.get f = some fn →
  P.funcs[f]? = some fn ∧ (fn.name == "runtime.NumGoroutine") = false ∧ ∀ c, fn.body = some c → okCode E ng c = true

def PrimOk (P : Program) (E : Env) (G : GS) : Prop := ∀ f k, E.prim.get f = some k →
  (∃ fn, P.funcs[f]? = some fn ∧ fn.body.isNone = false ∧ (fn.name == "runtime.NumGoroutine") = false) ∧ ∀ args H v H', primA E k args H = some (v, H') → TCall P G f args H v H'

def Sound (P : Program) (E : Env) (G : GS) (n : Nat) : Prop :=
  ∀ (c : Code) (σ σ' : St) (e : AEx), execC E n c σ = some (e, σ') → okCode E G.ng c = true → ∀ (B : Nat) (W0 : World) (μ : Mu) (a : Act) (w : World) (Q : Exit → Act → World → Prop),
    SR μ σ a → HR B W0 μ σ.H w → GOk G B W0 μ → (∀ μ' a' w', μ.le μ' → SR μ' σ' a' → HR B W0 μ' σ'.H w' → Q (toExit e) a' w') → c.wp P Q a w

def SoundL (P : Program) (E : Env) (G : GS) (n : Nat) : Prop :=
  ∀ (c : Code) (σ σ' : St) (e : AEx), execC E n (.loop c) σ = some (e, σ') → okCode E G.ng c = true → ∀ (B : Nat) (W0 : World) (μ : Mu) (a : Act) (w : World) (Q : Exit → Act → World → Prop),
    SR μ σ a → HR B W0 μ σ.H w → GOk G B W0 μ → (∀ μ' a' w', μ.le μ' → SR μ' σ' a' → HR B W0 μ' σ'.H w' → Q (toExit e) a' w') → Code.rounds P c Q n a w

theorem argTm_get (args : List Value) (t : Nat) : (argTm args).get t = args[t]? := by
  unfold argTm
  rw [PT.get_ofListFrom]
  split
  · simp
  · rename_i h
    rw [List.getElem?_eq_none_iff.2 (by omega)]
    exact PT.get_room t

def resM (tmps : Array Value) : ResultVar → Sem Value
  | .tmp t => pure (tmps.getD t undef)
  | .cell a t => do loadVar t (← asAddr (tmps.getD a undef))

include T in
theorem resL_ok {B : Nat} {W0 w : World} {μ : Mu} {σ : St} {a : Act} (sr : SR μ σ a) (hr : HR B W0 μ σ.H w) : ∀ (l : List ResultVar) (vs : List Value), resL E σ l = some vs →
    ∃ vs', (l.mapM (resM a.tmps) : Sem (List Value)).run P w = .ok vs' w ∧ VL μ vs vs'
  | [], vs, h => by simp only [resL, Option.some.injEq] at h; subst h; exact ⟨[], by simp, VL.nil⟩
  | x :: l, vs, h => by
    simp only [resL] at h
    split at h
    case h_2 => cases h
    case h_1 v1 h1 =>
    split at h
    case h_2 => cases h
    case h_1 vs1 h2 =>
    cases h
    obtain ⟨vs', e1, e2⟩ := resL_ok sr hr l vs1 h2
    have : ∃ v', (resM a.tmps x).run P w = .ok v' w ∧ VR μ v1 v' := by
      cases x with
      | tmp t =>
        simp only [resA, Option.some.injEq] at h1
        subst h1
        exact ⟨_, rfl, sr.tmp t⟩
      | cell b t =>
        simp only [resA] at h1
        obtain ⟨v', k1, k2⟩ := loadVar_ok T (P := P) hr h1 (sr.tmp b)
        refine ⟨v', ?_, k2⟩
        have hp := sr.tmp b
        simp only [resM]
        generalize a.tmps.getD b undef = p at k1 hp
        cases p with
        | pointer q =>
          cases q with
          | some q => exact k1
          | none => simp [Instr.loadAt, Instr.sureAddr] at k1
        | _ => simp [Instr.loadAt, Instr.sureAddr] at k1
    obtain ⟨v', k1, k2⟩ := this
    exact ⟨v' :: vs', by simp [List.mapM_cons, k1, e1], VL.cons k2 e2⟩

include T in
theorem results_ok {B : Nat} {W0 w : World} {μ : Mu} {σ : St} {a : Act} {fn : Func} {v : Value} (h : resultsA E fn σ = some v) (sr : SR μ σ a) (hr : HR B W0 μ σ.H w) :
    ∃ v', (results fn a.tmps).run P w = .ok v' w ∧ VR μ v v' := by
  have hdef : results fn a.tmps = (do
      let vs ← fn.results.mapM (resM a.tmps)
      pure (if h : vs.size = 1 then vs[0] else .tuple vs)) := by
    unfold results
    congr 1
  rw [hdef, Array.mapM_eq_mapM_toList]
  unfold resultsA at h
  split at h
  · rename_i v1 h1
    cases h
    obtain ⟨vs', e1, e2⟩ := resL_ok T sr hr _ _ h1
    obtain ⟨v', r, rfl, k1, k2⟩ := e2.cons_inv
    obtain rfl := k2.nil_inv
    exact ⟨v', by simp [e1], k1⟩
  · rename_i vs hne h1
    cases h
    obtain ⟨vs', e1, e2⟩ := resL_ok T sr hr _ _ h1
    refine ⟨.tuple vs'.toArray, ?_, .tuple _ _ e2.toArray.1 e2.toArray.2⟩
    have : ¬ vs'.length = 1 := by
      intro hl
      rw [← e2.1] at hl
      obtain ⟨x, rfl⟩ := List.length_eq_one_iff.1 hl
      exact hne x rfl
    simp [e1, this]
  · cases h

include T in
theorem callE_ok (F : EnvF P E G.ng) (R : PrimOk P E G) {n : Nat} (S : Sound P E G n) : CallOk P G (callE E (execC E n)) := by
  intro f args H v H' h
  unfold callE at h
  split at h
  · rename_i k hk
    exact ⟨(R f k hk).1, (R f k hk).2 args H v H' h⟩
  · split at h
    · cases h
    · rename_i fn hfn
      obtain ⟨f1, f2, f3⟩ := F f fn hfn
      split at h
      · cases h
      · rename_i c hc
        split at h
        · cases h
        · rename_i hlen
          have hlen' : args.length ≤ fn.ntmps := Nat.le_of_ble_eq_true hlen
          refine ⟨⟨fn, f1, by simp [hc], f2⟩, ?_⟩
          intro B W0 μ w args' hr g hl
          have hsz : args'.size = args.length := by rw [hl.1]; simp
          refine calls_of_wp f1 hc ?_
          have sr : SR μ ⟨fn.ntmps, argTm args, H⟩ { tmps := args' ++ Array.replicate (fn.ntmps - args'.size) undef, defers := [] } := by
            refine ⟨by simp; omega, fun t => ?_, rfl⟩
            simp only [St.rd, argTm_get]
            rw [Array.getD_eq_getD_getElem?, Array.getElem?_append]
            cases hq : args[t]? with
            | none =>
              have : ¬ t < args'.size := by rw [hsz]; exact Nat.not_lt.2 (List.getElem?_eq_none_iff.1 hq)
              rw [if_neg this, Array.getElem?_replicate]
              show VR μ undefV _
              split <;> exact VR.undef
            | some x =>
              obtain ⟨x', h1, h2⟩ := hl.getElem? hq
              have : t < args'.size := by rw [hsz]; exact (List.getElem?_eq_some_iff.1 hq).1
              rw [if_pos this]
              rw [Array.getElem?_toList] at h1
              rw [h1]
              exact h2
          split at h
          · rename_i σ' he
            simp only [Option.map_eq_some_iff] at h
            obtain ⟨v1, h1, h2⟩ := h
            cases h2
            refine S c _ σ' .normal he (f3 c hc) B W0 μ _ w _ sr hr g ?_
            intro μ' a' w' hle s1 r1
            obtain ⟨v', k1, k2⟩ := results_ok T (P := P) h1 s1 r1
            exact ⟨s1.defers, v', k1, μ', v', rfl, hle, r1, k2⟩
          · rename_i σ' he
            simp only [Option.map_eq_some_iff] at h
            obtain ⟨v1, h1, h2⟩ := h
            cases h2
            refine S c _ σ' .ret he (f3 c hc) B W0 μ _ w _ sr hr g ?_
            intro μ' a' w' hle s1 r1
            obtain ⟨v', k1, k2⟩ := results_ok T (P := P) h1 s1 r1
            exact ⟨s1.defers, v', k1, μ', v', rfl, hle, r1, k2⟩
          · cases h

include T X in
theorem sound (hm : P.follows .mixedOrders = true) (F : EnvF P E G.ng) (R : PrimOk P E G) : ∀ n, Sound P E G n ∧ SoundL P E G n
  | 0 => ⟨fun c σ σ' e h => by simp [execC] at h, fun c σ σ' e h => by simp [execC] at h⟩
  | n + 1 => by
    obtain ⟨S, SL⟩ := sound hm F R n
    have hL : SoundL P E G (n + 1) := by
      intro c σ σ' e h hok B W0 μ a w Q sr hr g hQ
      simp only [execC] at h
      split at h
      · rename_i σ1 h1
        rw [rounds_succ]
        refine S c σ σ1 .normal h1 hok B W0 μ a w _ sr hr g ?_
        intro μ' a' w' hle s1 r1
        exact SL c σ1 σ' e h hok B W0 μ' a' w' Q s1 r1 (g.mono hle) (fun μ2 a2 w2 l2 => hQ μ2 a2 w2 (hle.trans l2))
      · rename_i hn
        rw [rounds_succ]
        refine S c σ σ' e h hok B W0 μ a w _ sr hr g ?_
        intro μ' a' w' hle s1 r1
        have := hQ μ' a' w' hle s1 r1
        cases e with
        | normal => exact absurd h (hn _)
        | exit id => exact this
        | ret => exact this
    refine ⟨?_, hL⟩
    intro c σ σ' e h hok B W0 μ a w Q sr hr g hQ
    cases c with
    | skip => simp only [execC, Option.some.injEq, Prod.mk.injEq] at h; obtain ⟨rfl, rfl⟩ := h; exact wp_skip (hQ μ a w μ.le_refl sr hr)
    | label l => simp only [execC, Option.some.injEq, Prod.mk.injEq] at h; obtain ⟨rfl, rfl⟩ := h; exact wp_label (hQ μ a w μ.le_refl sr hr)
    | exit id => simp only [execC, Option.some.injEq, Prod.mk.injEq] at h; obtain ⟨rfl, rfl⟩ := h; exact wp_exit (hQ μ a w μ.le_refl sr hr)
    | ret => simp only [execC, Option.some.injEq, Prod.mk.injEq] at h; obtain ⟨rfl, rfl⟩ := h; exact wp_ret (hQ μ a w μ.le_refl sr hr)
    | region id ops draw =>
      simp only [execC] at h
      simp only [okCode, Bool.and_eq_true] at hok
      obtain ⟨hok, hdr⟩ := hok
      cases draw with
      | false =>
        simp only [Option.map_eq_some_iff, Prod.mk.injEq] at h
        obtain ⟨σ1, h1, rfl, rfl⟩ := h
        refine wp_region ?_
        have := regA_ok T X (callE_ok T F R S) (Q := Q) hok ops.toList 0 μ σ a w (by simp) h1 sr hr g hQ
        simpa [List.range_eq_range'] using this
      | true =>
        simp only [Option.map_eq_some_iff, Prod.mk.injEq] at h
        obtain ⟨σ1, h1, rfl, rfl⟩ := h
        exact drawA_ok T X hm (callE_ok T F R S) hok (by simpa using hdr) h1 sr hr g hQ
    | seq x y =>
      simp only [execC] at h
      simp only [okCode, Bool.and_eq_true] at hok
      split at h
      · rename_i σ1 h1
        refine wp_seq (S x σ σ1 .normal h1 hok.1 B W0 μ a w _ sr hr g ?_)
        intro μ' a' w' hle s1 r1
        exact S y σ1 σ' e h hok.2 B W0 μ' a' w' Q s1 r1 (g.mono hle) (fun μ2 a2 w2 l2 => hQ μ2 a2 w2 (hle.trans l2))
      · rename_i hn
        refine wp_seq (S x σ σ' e h hok.1 B W0 μ a w _ sr hr g ?_)
        intro μ' a' w' hle s1 r1
        have := hQ μ' a' w' hle s1 r1
        cases e with
        | normal => exact absurd h (hn _)
        | exit id => exact this
        | ret => exact this
    | cond c x y =>
      simp only [execC] at h
      simp only [okCode, Bool.and_eq_true] at hok
      have hc := ev_ok sr g hok.1.1
      split at h
      · rename_i he
        rw [he] at hc
        generalize hx : a.eval c = v at hc
        cases hc
        exact wp_cond_true hx (S x σ σ' e h hok.1.2 B W0 μ a w Q sr hr g hQ)
      · rename_i he
        rw [he] at hc
        generalize hx : a.eval c = v at hc
        cases hc
        exact wp_cond_false hx (S y σ σ' e h hok.2 B W0 μ a w Q sr hr g hQ)
      · cases h
    | block id b =>
      simp only [execC] at h
      split at h
      · rename_i j σ1 h1
        refine wp_block (S b σ σ1 (.exit j) h1 hok B W0 μ a w _ sr hr g ?_)
        intro μ' a' w' hle s1 r1
        simp only [toExit, Exit.inBlock]
        split at h
        · rename_i hj
          cases h
          rw [if_pos (Nat.eq_of_beq_eq_true hj)]
          exact hQ μ' a' w' hle s1 r1
        · rename_i hj
          cases h
          rw [if_neg (Nat.ne_of_beq_eq_false hj)]
          exact hQ μ' a' w' hle s1 r1
      · rename_i hn
        refine wp_block (S b σ σ' e h hok B W0 μ a w _ sr hr g ?_)
        intro μ' a' w' hle s1 r1
        have := hQ μ' a' w' hle s1 r1
        cases e with
        | normal => exact this
        | exit j => exact absurd h (hn _ _)
        | ret => exact this
    | loop b => exact wp_loop_rounds (n + 1) (hL b σ σ' e h hok B W0 μ a w Q sr hr g hQ)
    | _ => simp [execC] at h
end
end Go.Vsx
