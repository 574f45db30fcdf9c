/- The operations are right, 4: slice expressions, len, cap, what is built and made. -/
import Derived.Test.YtfahjdpepgedpaaGreatDoorVOps3
set_option linter.all false
namespace Go.Vsx
open Go Go.RowKit

def OV (μ : Mu) : Option Value → Option Value → Prop
  | none, none => True
  | some x, some y => VR μ x y
  | _, _ => False

section
variable {P : Program} {E : Env} (T : TyOk P E) {B : Nat} {W0 w : World} {μ : Mu} {H H' : Heap}

theorem sliceBound_ok {v v' : Value} {d most y r : Nat} (h : natIn (some v) d most = some r) (hv : VR μ v v') (hy : most ≤ y) (code : BoundsCode) :
    (Instr.sliceBound v' y code).run P w = .ok r w ∧ r ≤ most := by
  unfold natIn at h
  split at h
  · rename_i e; cases e
  · rename_i k i e
    cases e
    cases hv
    split at h
    case isFalse => cases h
    case isTrue hi =>
      cases h
      have : 0 ≤ i ∧ i ≤ (y : Int) := by omega
      exact ⟨by simp [Instr.sliceBound, asIntOf, this], by omega⟩
  · cases h

theorem bounds_ok {len cap l h m : Nat} {lo hi mx lo' hi' mx' : Option Value} (hb : boundsA len cap lo hi mx = some (l, h, m)) (h1 : OV μ lo lo') (h2 : OV μ hi hi') (h3 : OV μ mx mx') (b : Bool) (ex : Nat) :
    (Instr.sliceBounds b len (cap + ex) lo' hi' mx').run P w = .ok (l, h, if mx.isSome = true then m else m + ex) w ∧ l ≤ h ∧ h ≤ m ∧ (mx = none → m = cap) := by
  simp only [boundsA, Option.bind_eq_bind] at hb
  split at hb
  case isTrue => cases hb
  case isFalse hc =>
  simp only [Option.pure_def, Option.bind_some, Option.bind_eq_some_iff] at hb
  obtain ⟨m0, hm, h0, hh, l0, hl, hb⟩ := hb
  split at hb
  case isFalse => cases hb
  case isTrue hle =>
  rw [Nat.ble_eq] at hle
  cases hb
  cases mx with
  | none =>
    cases mx' with
    | some _ => exact h3.elim
    | none =>
      simp only [natIn, Option.some.injEq] at hm
      subst hm
      cases hi with
      | none =>
        cases hi' with
        | some _ => exact h2.elim
        | none =>
          simp only [natIn, Option.some.injEq] at hh
          subst hh
          cases lo with
          | none =>
            cases lo' with
            | some _ => exact h1.elim
            | none =>
              simp only [natIn, Option.some.injEq] at hl
              subst hl
              exact ⟨by simp [Instr.sliceBounds], Nat.zero_le _, hle, fun _ => rfl⟩
          | some v =>
            cases lo' with
            | none => exact h1.elim
            | some v' =>
              obtain ⟨a, c⟩ := sliceBound_ok (P := P) (w := w) hl h1 (Nat.le_refl _) .sliceB
              exact ⟨by simp [Instr.sliceBounds, a], c, hle, fun _ => rfl⟩
      | some u =>
        cases hi' with
        | none => exact h2.elim
        | some u' =>
          obtain ⟨a, c⟩ := sliceBound_ok (P := P) (w := w) hh h2 (Nat.le_add_right cap ex) (if b then .sliceAcap else .sliceAlen)
          cases lo with
          | none =>
            cases lo' with
            | some _ => exact h1.elim
            | none =>
              simp only [natIn, Option.some.injEq] at hl
              subst hl
              exact ⟨by simp [Instr.sliceBounds, a], Nat.zero_le _, c, fun _ => rfl⟩
          | some v =>
            cases lo' with
            | none => exact h1.elim
            | some v' =>
              obtain ⟨a2, c2⟩ := sliceBound_ok (P := P) (w := w) hl h1 (Nat.le_refl _) .sliceB
              exact ⟨by simp [Instr.sliceBounds, a, a2], c2, c, fun _ => rfl⟩
  | some z =>
    cases mx' with
    | none => exact h3.elim
    | some z' =>
      obtain ⟨a3, c3⟩ := sliceBound_ok (P := P) (w := w) hm h3 (Nat.le_add_right cap ex) (if b then .slice3Acap else .slice3Alen)
      cases hi with
      | none => simp at hc
      | some u =>
        cases hi' with
        | none => exact h2.elim
        | some u' =>
          obtain ⟨a, c⟩ := sliceBound_ok (P := P) (w := w) hh h2 (Nat.le_refl _) .slice3B
          cases lo with
          | none =>
            cases lo' with
            | some _ => exact h1.elim
            | none =>
              simp only [natIn, Option.some.injEq] at hl
              subst hl
              exact ⟨by simp [Instr.sliceBounds, a, a3], Nat.zero_le _, c, fun h => by cases h⟩
          | some v =>
            cases lo' with
            | none => exact h1.elim
            | some v' =>
              obtain ⟨a2, c2⟩ := sliceBound_ok (P := P) (w := w) hl h1 (Nat.le_refl _) .slice3C
              exact ⟨by simp [Instr.sliceBounds, a, a2, a3], c2, c, fun h => by cases h⟩

theorem bounds_cap {len cap l h m : Nat} {lo hi mx : Option Value} (hb : boundsA len cap lo hi mx = some (l, h, m)) : m ≤ cap := by
  simp only [boundsA, Option.bind_eq_bind] at hb
  split at hb
  case isTrue => cases hb
  case isFalse hc =>
  simp only [Option.pure_def, Option.bind_some, Option.bind_eq_some_iff] at hb
  obtain ⟨m0, hm, h0, hh, l0, hl, hb⟩ := hb
  split at hb
  case isFalse => cases hb
  case isTrue hle =>
  cases hb
  unfold natIn at hm
  split at hm
  · cases hm; exact Nat.le_refl _
  · split at hm
    · cases hm; omega
    · cases hm
  · cases hm

include T
theorem slice_ok {t : TypeId} {x x' v : Value} {lo hi mx lo' hi' mx' : Option Value} (h : sliceAbs E t x lo hi mx = some v) (hx : VR μ x x') (h1 : OV μ lo lo') (h2 : OV μ hi hi') (h3 : OV μ mx mx') :
    RdOk P μ w (Instr.sliceAt t x' lo' hi' mx') v := by
  simp only [sliceAbs, Option.bind_eq_bind, Option.bind_eq_some_iff] at h
  obtain ⟨d, hd, h⟩ := h
  have ud := T.run_und hd
  split at h
  · rename_i n e v0 o
    simp only [Option.bind_eq_some_iff] at h
    obtain ⟨⟨l, hh, m⟩, hb, s, hs, h⟩ := h
    cases h
    cases hx with
    | ptr _ _ p hp =>
    obtain ⟨a, c1, c2, c3⟩ := bounds_ok (P := P) (w := w) hb h1 h2 h3 false 0
    have hm : (if mx.isSome = true then m else m + 0) = m := by split <;> rfl
    rw [hm] at a
    simp only [Nat.add_zero] at a
    refine ⟨.slice (some ⟨p.blk, p.off + (if m = l then o else o + l * s), none⟩) (hh - l) (m - l), ?_, .slc _ _ _ _ p hp⟩
    simp only [Instr.sliceAt, Sem.run_bind, ud, Result.andThen_ok]
    simp only [Instr.sureAddr, Sem.run_bind, Sem.run_pure, Result.andThen_ok, a, T.run_size hs]
    by_cases hml : m = l
    · simp [hml]
    · simp [hml, Addr.add_none, Nat.add_assoc]
  · rename_i s
    split at h
    case isTrue => cases h
    case isFalse hmx =>
    simp only [Option.pure_def, Option.bind_some, Option.bind_eq_some_iff] at h
    obtain ⟨⟨l, hh, m⟩, hb, h⟩ := h
    cases h
    cases hx
    have hmn : mx = none := by cases mx <;> simp at hmx; rfl
    subst hmn
    have hmn' : mx' = none := by cases mx' with | none => rfl | some _ => exact h3.elim
    subst hmn'
    obtain ⟨a, c1, c2, c3⟩ := bounds_ok (P := P) (w := w) hb h1 h2 h3 false 0
    simp only [Nat.add_zero] at a
    refine ⟨_, ?_, .str _⟩
    simp only [Instr.sliceAt, Sem.run_bind, ud, Result.andThen_ok]
    simp only [Instr.slice, Sem.run_bind, ud, Result.andThen_ok]
    simp [a]
  · rename_i e len cap
    simp only [Option.bind_eq_some_iff] at h
    obtain ⟨⟨l, hh, m⟩, hb, s, hs, h⟩ := h
    cases h
    cases hx
    obtain ⟨a, c1, c2, c3⟩ := bounds_ok (P := P) (w := w) hb h1 h2 h3 true 0
    have hm : (if mx.isSome = true then m else m + 0) = m := by split <;> rfl
    rw [hm] at a
    simp only [Nat.add_zero] at a
    refine ⟨_, ?_, .slcN _ _⟩
    simp only [Instr.sliceAt, Sem.run_bind, ud, Result.andThen_ok]
    simp only [Instr.slice, Sem.run_bind, ud, Result.andThen_ok, a, T.run_size hs]
    simp
  · rename_i e v0 o len cap
    simp only [Option.bind_eq_some_iff] at h
    obtain ⟨⟨l, hh, m⟩, hb, s, hs, h⟩ := h
    cases h
    obtain ⟨a, c1, c2, c3⟩ := bounds_ok (P := P) (w := w) hb h1 h2 h3 true 0
    have hm : (if mx.isSome = true then m else m + 0) = m := by split <;> rfl
    rw [hm] at a
    simp only [Nat.add_zero] at a
    cases hx with
    | slc _ _ _ _ p hp =>
      refine ⟨.slice (some ⟨p.blk, p.off + (if m = l then o else o + l * s), none⟩) (hh - l) (m - l), ?_, .slc _ _ _ _ p hp⟩
      simp only [Instr.sliceAt, Sem.run_bind, ud, Result.andThen_ok]
      simp only [Instr.slice, Sem.run_bind, ud, Result.andThen_ok, a, T.run_size hs]
      by_cases hml : m = l
      · simp [hml]
      · simp [hml, Addr.add_none, Nat.add_assoc]
    | slcE _ _ q p hp =>
      have hle := bounds_cap hb
      have m0 : m = 0 := by omega
      have l0 : l = 0 := by omega
      subst m0; subst l0
      refine ⟨.slice (some ⟨p.blk, q, none⟩) (hh - 0) (0 - 0), ?_, ?_⟩
      · simp only [Instr.sliceAt, Sem.run_bind, ud, Result.andThen_ok]
        simp only [Instr.slice, Sem.run_bind, ud, Result.andThen_ok, a, T.run_size hs]
        simp
      · rw [show hh - 0 = 0 from by omega]
        exact .slcE _ _ _ p hp
  · rename_i e v0 o len cap
    simp only [Option.bind_eq_some_iff] at h
    obtain ⟨⟨l, hh, m⟩, hb, s, hs, h⟩ := h
    have key : ∀ (p : Pl) (q : Nat), μ.pl v0 = some p → (q = p.off + o ∨ (len = 0 ∧ cap = 0 ∧ p.ex = 0)) → RdOk P μ w (Instr.sliceAt t (.slice (some ⟨p.blk, q, none⟩) len (cap + p.ex)) lo' hi' mx') v := by
      intro p q hp hq
      obtain ⟨a, c1, c2, c3⟩ := bounds_ok (P := P) (w := w) hb h1 h2 h3 true p.ex
      have run : ∀ m' a', (if mx.isSome = true then m else m + p.ex) = m' → (if m' = l then (⟨p.blk, q, none⟩ : Addr) else ⟨p.blk, q + l * s, none⟩) = a' →
          (Instr.sliceAt t (.slice (some ⟨p.blk, q, none⟩) len (cap + p.ex)) lo' hi' mx').run P w = .ok (.slice (some a') (hh - l) (m' - l)) w := by
        intro m' a' e1 e2
        subst e1; subst e2
        simp only [Instr.sliceAt, Sem.run_bind, ud, Result.andThen_ok]
        simp only [Instr.slice, Sem.run_bind, ud, Result.andThen_ok, a, T.run_size hs]
        simp only [Addr.add_none, Option.map_some, Sem.run_pure]
        rw [apply_ite (f := some)]
      cases mx with
      | none =>
        simp only [Option.some.injEq] at h
        subst h
        have hmc := c3 rfl
        subst hmc
        refine ⟨_, run _ _ rfl rfl, ?_⟩
        simp only [Option.isSome_none, Bool.false_eq_true, if_false]
        by_cases hml : m + p.ex = l
        · have h1 : m = l := by omega
          have h2 : p.ex = 0 := by omega
          have h3 : hh - l = 0 := by omega
          rw [if_pos hml, h3, show m - l = 0 from by omega, show m + p.ex - l = 0 from by omega]
          exact .sloE _ _ _ p hp h2
        · rw [if_neg hml]
          have e1 : m + p.ex - l = (m - l) + p.ex := by omega
          rw [e1]
          rcases hq with rfl | ⟨_, hq2, hq3⟩
          · have e2 : p.off + o + l * s = p.off + (o + l * s) := by omega
            rw [e2]
            exact .slo _ _ _ _ p hp
          · omega
      | some z =>
        simp only [Option.some.injEq] at h
        subst h
        refine ⟨_, run _ _ rfl rfl, ?_⟩
        simp only [Option.isSome_some, if_true]
        have hle := bounds_cap hb
        by_cases hml : m = l
        · have e0 : hh - l = 0 := by omega
          have e1 : m - l = 0 := by omega
          rw [e0, e1, if_pos hml, if_pos hml]
          exact .slcE _ _ _ p hp
        · rcases hq with rfl | ⟨_, hq2, _⟩
          · rw [if_neg hml, if_neg hml]
            have e2 : p.off + o + l * s = p.off + (o + l * s) := by omega
            rw [e2]
            exact .slc _ _ _ _ p hp
          · omega
    cases hx with
    | slo _ _ _ _ p hp => exact key p _ hp (.inl rfl)
    | sloE _ _ q p hp hex =>
      have := key p q hp (.inr ⟨rfl, rfl, hex⟩)
      rw [hex] at this
      exact this
  · cases h
end
end Go.Vsx
