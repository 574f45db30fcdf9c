/- Cut points: a function's own code run piece by piece, from loop head to loop head, on values that are not known; a state may be weakened between. -/
import Derived.Test.YtfahjdpepgedpaaGreatDoorVOpen
set_option linter.all false
namespace Go.Vsx
open Go Go.RowKit

/-- What is still to be done behind a piece of code. -/
inductive Fr where
  | seq (b : Code)
  | block (id : Nat)
  | loop (b : Code)

/-- Where a run stands: ahead of a piece of code, at a loop's head, behind a piece of code. -/
inductive Pt where
  | run (c : Code) (ks : List Fr)
  | head (b : Code) (ks : List Fr)
  | out (e : AEx) (ks : List Fr)

/-- At a loop's head. -/
def LWp (P : Program) (c : Code) (Q : Exit → Act → World → Prop) (a : Act) (w : World) : Prop :=
  ∀ (b : Frame) (k : List Item) (cs : List Frame), ∃ e a' w', Q e a' w' ∧ Arrives P (lone (b.at a (.code c :: .inLoop c :: k)) cs w) b k cs e a' w'

theorem wp_of_LWp {P : Program} {c : Code} {Q : Exit → Act → World → Prop} {a : Act} {w : World} (h : LWp P c Q a w) : (Code.loop c).wp P Q a w := by
  intro b k cs
  obtain ⟨e, a', w', hq, harr⟩ := h b k cs
  exact ⟨e, a', w', hq, .of_steps (.one step_loop) harr⟩

theorem LWp.unfold {P : Program} {c : Code} {Q : Exit → Act → World → Prop} {a : Act} {w : World} (h : c.wp P (Exit.then (LWp P c Q) Q) a w) : LWp P c Q a w := by
  intro b k cs
  obtain ⟨e, a₁, w₁, hq, harr⟩ := h b (.inLoop c :: k) cs
  cases e with
  | normal =>
    obtain ⟨e₂, a₂, w₂, hq₂, harr₂⟩ := hq b k cs
    exact ⟨e₂, a₂, w₂, hq₂, .of_steps (Steps.trans harr (.one step_inLoop)) harr₂⟩
  | exit id => exact ⟨_, a₁, w₁, hq, .pass (x := .inLoop c) rfl (fun _ _ => .inl (by simp)) harr⟩
  | goto l => exact ⟨_, a₁, w₁, hq, .pass (x := .inLoop c) rfl (fun _ _ => .inl (by simp)) harr⟩
  | ret => exact ⟨_, a₁, w₁, hq, .pass (x := .inLoop c) rfl (fun _ _ => .inl (by simp)) harr⟩
  | panic ch => exact ⟨_, a₁, w₁, hq, .pass (x := .inLoop c) rfl (fun _ _ => .inl (by simp)) harr⟩
  | outgrown => exact ⟨_, a₁, w₁, hq, .pass (x := .inLoop c) rfl (fun _ _ => .inl (by simp)) harr⟩

def Kwp (P : Program) (Q : Exit → Act → World → Prop) : List Fr → Exit → Act → World → Prop
  | [] => Q
  | .seq b :: k => Exit.then (b.wp P (Kwp P Q k)) (Kwp P Q k)
  | .block id :: k => Exit.inBlock id (Kwp P Q k)
  | .loop b :: k => Exit.then (LWp P b (Kwp P Q k)) (Kwp P Q k)

def Pt.wp (P : Program) (Q : Exit → Act → World → Prop) : Pt → Act → World → Prop
  | .run c ks => c.wp P (Kwp P Q ks)
  | .head b ks => LWp P b (Kwp P Q ks)
  | .out e ks => Kwp P Q ks (toExit e)

noncomputable section
def okFr (E : Env) (ng : Nat) : Fr → Bool
  | .seq b => okCode E ng b
  | .block _ => true
  | .loop b => okCode E ng b
def okPt (E : Env) (ng : Nat) : Pt → Bool
  | .run c ks => okCode E ng c && ks.all (okFr E ng)
  | .head b ks => okCode E ng b && ks.all (okFr E ng)
  | .out _ ks => ks.all (okFr E ng)

/-- Runs on until the loop head behind 'j' others. -/
def fK (E : Env) (k : Nat) : Nat → Pt → St → Nat → Option (Pt × St)
  | 0 => fun _ _ _ => none
  | f + 1 => fun pt σ j => match pt with
    | .head b ks => match j with
      | 0 => some (.head b ks, σ)
      | j + 1 => fK E k f (.run b (.loop b :: ks)) σ j
    | .out e ks => match ks with
      | [] => some (.out e [], σ)
      | .seq b :: ks => match e with
        | .normal => fK E k f (.run b ks) σ j
        | .exit i => fK E k f (.out (.exit i) ks) σ j
        | .ret => fK E k f (.out .ret ks) σ j
      | .block id :: ks => match e with
        | .normal => fK E k f (.out .normal ks) σ j
        | .exit i => match Nat.beq i id with
          | true => fK E k f (.out .normal ks) σ j
          | false => fK E k f (.out (.exit i) ks) σ j
        | .ret => fK E k f (.out .ret ks) σ j
      | .loop b :: ks => match e with
        | .normal => fK E k f (.head b ks) σ j
        | .exit i => fK E k f (.out (.exit i) ks) σ j
        | .ret => fK E k f (.out .ret ks) σ j
    | .run c ks => match c with
      | .skip => fK E k f (.out .normal ks) σ j
      | .label _ => fK E k f (.out .normal ks) σ j
      | .exit i => fK E k f (.out (.exit i) ks) σ j
      | .ret => fK E k f (.out .ret ks) σ j
      | .seq a b => fK E k f (.run a (.seq b :: ks)) σ j
      | .block id b => fK E k f (.run b (.block id :: ks)) σ j
      | .loop b => fK E k f (.head b ks) σ j
      | .cond c a b => match fEv σ.tm c with
        | .bool true => fK E k f (.run a ks) σ j
        | .bool false => fK E k f (.run b ks) σ j
        | _ => none
      | .region id ops d => match fExec E k (.region id ops d) σ.n σ.tm σ.H with
        | some (.normal, σ') => fK E k f (.out .normal ks) σ' j
        | _ => none
      | _ => none
end

/-- All that is asked of an environment. -/
structure Right (P : Program) (E : Env) (G : GS) : Prop where
  T : TyOk P E
  X : XOk P E G
  hm : P.follows .mixedOrders = true
  F : EnvF P E G.ng
  R : PrimOk P E G

theorem Kwp.seq {P : Program} {Q : Exit → Act → World → Prop} {e : Exit} {b : Code} {k : List Fr} {a : Act} {w : World} (h : (e ≠ .normal → Kwp P Q k e a w)) (hn : e = .normal → b.wp P (Kwp P Q k) a w) : Kwp P Q (.seq b :: k) e a w := by
  cases e with
  | normal => exact hn rfl
  | _ => exact h (by simp)

theorem fK_ok {P : Program} {E : Env} {G : GS} (R : Right P E G) {k : Nat} {B : Nat} {W0 : World} {Q : Exit → Act → World → Prop} {pt' : Pt} {σ' : St} :
    ∀ (f : Nat) (pt : Pt) (σ : St) (j : Nat), fK E k f pt σ j = some (pt', σ') → okPt E G.ng pt = true → ∀ (μ : Mu) (a : Act) (w : World), SR μ σ a → HR B W0 μ σ.H w → GOk G B W0 μ →
      (∀ μ' a' w', μ.le μ' → SR μ' σ' a' → HR B W0 μ' σ'.H w' → pt'.wp P Q a' w') → pt.wp P Q a w
  | 0, pt, σ, j, h => by simp [fK] at h
  | f + 1, pt, σ, j, h => by
    intro hok μ a w sr hr g hQ
    have ih := fK_ok R (k := k) (B := B) (W0 := W0) (Q := Q) (pt' := pt') (σ' := σ') f
    have go : ∀ (pt2 : Pt) (j2 : Nat), fK E k f pt2 σ j2 = some (pt', σ') → okPt E G.ng pt2 = true → pt2.wp P Q a w := fun pt2 j2 h2 o2 => ih pt2 σ j2 h2 o2 μ a w sr hr g hQ
    cases pt with
    | head b ks =>
      simp only [fK] at h
      cases j with
      | zero =>
        simp only [Option.some.injEq, Prod.mk.injEq] at h
        obtain ⟨rfl, rfl⟩ := h
        exact hQ μ a w μ.le_refl sr hr
      | succ j =>
        simp only [okPt, Bool.and_eq_true] at hok
        refine LWp.unfold ?_
        exact go (.run b (.loop b :: ks)) j h (by simp [okPt, okFr, hok.1, hok.2])
    | out e ks =>
      cases ks with
      | nil =>
        simp only [fK, Option.some.injEq, Prod.mk.injEq] at h
        obtain ⟨rfl, rfl⟩ := h
        exact hQ μ a w μ.le_refl sr hr
      | cons x ks =>
        simp only [okPt, List.all_cons, Bool.and_eq_true] at hok
        cases x with
        | seq b =>
          cases e with
          | normal => exact go (.run b ks) j (by simpa only [fK] using h) (by simp only [okPt, Bool.and_eq_true]; exact hok)
          | exit i => exact go (.out (.exit i) ks) j (by simpa only [fK] using h) hok.2
          | ret => exact go (.out .ret ks) j (by simpa only [fK] using h) hok.2
        | block id =>
          cases e with
          | normal => exact go (.out .normal ks) j (by simpa only [fK] using h) hok.2
          | exit i =>
            simp only [fK] at h
            show Exit.inBlock id (Kwp P Q ks) (.exit i) a w
            simp only [Exit.inBlock]
            split at h
            · rename_i hj
              rw [if_pos (Nat.eq_of_beq_eq_true hj)]
              exact go (.out .normal ks) j h hok.2
            · rename_i hj
              rw [if_neg (Nat.ne_of_beq_eq_false hj)]
              exact go (.out (.exit i) ks) j h hok.2
          | ret => exact go (.out .ret ks) j (by simpa only [fK] using h) hok.2
        | loop b =>
          cases e with
          | normal => exact go (.head b ks) j (by simpa only [fK] using h) (by simp only [okPt, Bool.and_eq_true]; exact hok)
          | exit i => exact go (.out (.exit i) ks) j (by simpa only [fK] using h) hok.2
          | ret => exact go (.out .ret ks) j (by simpa only [fK] using h) hok.2
    | run c ks =>
      simp only [okPt, Bool.and_eq_true] at hok
      cases c with
      | skip => exact wp_skip (go (.out .normal ks) j (by simpa only [fK] using h) hok.2)
      | label l => exact wp_label (go (.out .normal ks) j (by simpa only [fK] using h) hok.2)
      | exit i => exact wp_exit (go (.out (.exit i) ks) j (by simpa only [fK] using h) hok.2)
      | ret => exact wp_ret (go (.out .ret ks) j (by simpa only [fK] using h) hok.2)
      | seq x y =>
        simp only [okCode, Bool.and_eq_true] at hok
        exact wp_seq (go (.run x (.seq y :: ks)) j (by simpa only [fK] using h) (by simp [okPt, okFr, hok.1.1, hok.1.2, hok.2]))
      | block id b =>
        simp only [okCode] at hok
        exact wp_block (go (.run b (.block id :: ks)) j (by simpa only [fK] using h) (by simp [okPt, okFr, hok.1, hok.2]))
      | loop b =>
        simp only [okCode] at hok
        exact wp_of_LWp (go (.head b ks) j (by simpa only [fK] using h) (by simp [okPt, hok.1, hok.2]))
      | cond c x y =>
        simp only [okCode, Bool.and_eq_true] at hok
        have hc := ev_ok sr g hok.1.1.1
        simp only [fK, fEv_eq] at h
        split at h
        · rename_i he
          rw [he] at hc
          generalize hx : a.eval c = v at hc
          cases hc
          exact wp_cond_true hx (go (.run x ks) j h (by simp [okPt, hok.1.1.2, hok.2]))
        · rename_i he
          rw [he] at hc
          generalize hx : a.eval c = v at hc
          cases hc
          exact wp_cond_false hx (go (.run y ks) j h (by simp [okPt, hok.1.2, hok.2]))
        · cases h
      | region id ops d =>
        simp only [fK, fExec_eq] at h
        split at h
        · rename_i σ1 h1
          refine (sound R.T R.X R.hm R.F R.R k).1 _ σ σ1 .normal h1 hok.1 B W0 μ a w _ sr hr g ?_
          intro μ' a' w' hle s1 r1
          exact ih (.out .normal ks) σ1 j h hok.2 μ' a' w' s1 r1 (g.mono hle) (fun μ2 a2 w2 l2 => hQ μ2 a2 w2 (hle.trans l2))
        · cases h
      | _ => simp [fK] at h

/-- From such a state all goes well. -/
def Good (P : Program) (G : GS) (Q : Nat → World → Exit → Act → World → Prop) (pt : Pt) (σ : St) : Prop :=
  ∀ (B : Nat) (W0 : World) (μ : Mu) (a : Act) (w : World), SR μ σ a → HR B W0 μ σ.H w → GOk G B W0 μ → pt.wp P (Q B W0) a w

theorem Good.run {P : Program} {E : Env} {G : GS} {Q : Nat → World → Exit → Act → World → Prop} (R : Right P E G) {k f j : Nat} {pt pt' : Pt} {σ σ' : St} (h : fK E k f pt σ j = some (pt', σ'))
    (hok : okPt E G.ng pt = true) (hn : Good P G Q pt' σ') : Good P G Q pt σ := by
  intro B W0 μ a w sr hr g
  exact fK_ok R f pt σ j h hok μ a w sr hr g fun μ' a' w' hle s1 r1 => hn B W0 μ' a' w' s1 r1 (g.mono hle)

theorem Good.fin {P : Program} {E : Env} {G : GS} (T : TyOk P E) {fn : Func} {σ : St} {b : Bool} {e : AEx} {R : Nat → World → Ending → World → Prop} (he : e = .normal ∨ e = .ret) (h : resultsA E fn σ = some (.bool b))
    (hR : ∀ B W0 w, Below B W0 w → G.I B W0 → R B W0 (.returned (.bool b)) w) : Good P G (fun B W0 => bodyPost P fn (R B W0)) (.out e []) σ := by
  intro B W0 μ a w sr hr g
  obtain ⟨v', k1, k2⟩ := results_ok T (P := P) h sr hr
  cases k2
  have := hR B W0 w hr.below g.2.1
  rcases he with rfl | rfl
  · exact ⟨sr.defers, _, k1, this⟩
  · exact ⟨sr.defers, _, k1, this⟩
end Go.Vsx
