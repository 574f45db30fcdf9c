/- The operations are right, 6: copy, clear, len, min, what is built and made. -/
import Derived.Test.YtfahjdpepgedpaaGreatDoorVOps5
set_option linter.all false
namespace Go.Vsx
open Go Go.RowKit

section
variable {P : Program} {E : Env} (T : TyOk P E) {B : Nat} {W0 w : World} {μ : Mu} {H H' : Heap}
include T

theorem copy_ok (hr : HR B W0 μ H w) {dT : TypeId} {d x d' x' v : Value} {ts : Array TypeId} {ty : TypeId} (h : copyA E H dT d x = some (v, H')) (hd : VR μ d d') (hx : VR μ x x')
    (h0 : ts[0]? = some dT) : SOk P B W0 μ w (Builtin.copy_ ts ty #[d', x']) v H' := by
  simp only [copyA, Option.bind_eq_bind, Option.bind_eq_some_iff] at h
  obtain ⟨td, htd, h⟩ := h
  split at h
  case h_2 => cases h
  case h_1 e a dl dc =>
  simp only [Option.bind_eq_some_iff] at h
  obtain ⟨s, hs, sl, hsl, cs, hcs, h⟩ := h
  have hlen : (Builtin.lenOf x').run P w = .ok sl w := by
    split at hsl
    · cases hsl; cases hx <;> rfl
    · cases hsl; cases hx; rfl
    · cases hsl
  have hle : ∀ a l c, x = .slice a l c → Nat.min sl dl ≤ l := by
    intro a l c e
    subst e
    simp only [Option.some.injEq] at hsl
    subst hsl
    exact Nat.min_le_left _ _
  obtain ⟨cs', f1, f2⟩ := front_ok (P := P) hr hcs hx hle (fun a e => by subst e; cases hsl) (fun a e => by subst e; cases hsl)
  have run : ∀ (base : Option Addr) (dc' : Nat) (w' : World), (match base with | some a => (storeCells a cs').run P w | none => .ok () w) = .ok () w' →
      (Builtin.copy_ ts ty #[.slice base dl dc', x']).run P w = .ok (.int .i64 (Nat.min sl dl : Nat)) w' := by
    intro base dc' w' hst
    simp only [Builtin.copy_, h0, List.getElem?_toArray, List.getElem?_cons_zero, List.getElem?_cons_succ, Sem.run_bind, T.run_und htd, Result.andThen_ok, hlen, T.run_size hs, f1]
    cases base with
    | none => simp only at hst; cases hst; rfl
    | some a => simp only [Sem.run_bind] at hst ⊢; rw [hst]; rfl
  split at h
  · cases h
    have : ∃ l c, d' = .slice none l c ∧ l = dl := by cases hd; exact ⟨_, _, rfl, rfl⟩
    obtain ⟨_, c, rfl, rfl⟩ := this
    exact ⟨_, w, μ, run none c w rfl, μ.le_refl, hr, .int _ _⟩
  · rename_i v0 o sp
    split at h
    case isTrue hemp =>
      cases h
      have hc0 : cs = [] := by simpa using hemp
      subst hc0
      have := f2.nil_inv
      subst this
      have : ∃ a c, d' = .slice (some a) dl c := by cases hd <;> exact ⟨_, _, rfl⟩
      obtain ⟨a, c, rfl⟩ := this
      exact ⟨_, w, μ, run (some a) c w (by simp [storeCells]), μ.le_refl, hr, .int _ _⟩
    case isFalse hne =>
      simp only [Option.bind_eq_some_iff] at h
      obtain ⟨H2, hw, h⟩ := h
      cases h
      have key : ∀ (p : Pl) (c' : Nat), μ.pl v0 = some p → SOk P B W0 μ w (Builtin.copy_ ts ty #[.slice (some ⟨p.blk, p.off + o, none⟩) dl c', x']) (.int .i64 (Nat.min sl dl : Nat)) H' := by
        intro p c' hp
        obtain ⟨w', a1, a2⟩ := hr.wr P hw hp f2
        exact ⟨_, w', μ, run _ c' w' a1, μ.le_refl, a2, .int _ _⟩
      have zero : dl = 0 → False := by
        intro h0
        subst h0
        have hm : Nat.min sl 0 = 0 := Nat.min_zero sl
        rw [hm] at hcs
        apply hne
        unfold frontA at hcs
        split at hcs
        · rw [Nat.zero_mul] at hcs
          have := rdCells_zero hcs
          subst this; rfl
        · cases hcs; rfl
        · cases hcs; rfl
        · simp only [Option.some.injEq] at hcs
          subst hcs; rfl
        · cases hcs
      cases hd with
      | slc _ _ _ _ p hp => exact key p _ hp
      | slo _ _ _ _ p hp => exact key p _ hp
      | slcE _ _ q p hp => exact (zero rfl).elim
      | sloE _ _ q p hp => exact (zero rfl).elim

omit T in
theorem setMap_ok (hr : HR B W0 μ H w) {r : Nat} {es es2 : List MapEntry} {clock clock2 : Nat} {p : Pl} {es2' : Array MapEntry} (hg : H.get r = some (.map es clock)) (hp : μ.pl r = some p)
    (hl : es2.length = es2'.size) (hm : ∀ (i : Nat) e e', es2[i]? = some e → es2'[i]? = some e' → ME μ e e') :
    ∃ w', (setObj p.blk (.map es2' clock2)).run P w = .ok () w' ∧ HR B W0 μ (H.put r (.map es2 clock2)) w' := by
  obtain ⟨q, a, b, _⟩ := hr.obj r _ hg
  rw [a] at hp; cases hp
  obtain ⟨es', hb, _⟩ := b
  obtain ⟨hlt, hx⟩ := Array.getElem?_eq_some_iff.1 hb
  refine ⟨{ w with heap := w.heap.setIfInBounds p.blk (.map es2' clock2) }, ?_, ?_⟩
  · simp only [setObj, Sem.run, hb]
  · refine hr.upd hg a rfl rfl ⟨rfl, rfl, rfl, by simp⟩ ?_ ?_
    · intro k hk
      show (w.heap.setIfInBounds _ _)[k]? = _
      rw [Array.getElem?_setIfInBounds, if_neg (by omega)]
    · exact ⟨es2', by show (w.heap.setIfInBounds _ _)[_]? = _; simp [hlt], hl, hm⟩

theorem clear_ok (hr : HR B W0 μ H w) {t : TypeId} {x x' : Value} {ts : Array TypeId} {ty : TypeId} (h : clearA E H t x = some H') (hx : VR μ x x') (h0 : ts[0]? = some t) :
    SOk P B W0 μ w (Builtin.clear_ ts ty #[x']) undefV H' := by
  simp only [clearA, Option.bind_eq_bind, Option.bind_eq_some_iff] at h
  obtain ⟨td, htd, h⟩ := h
  have hu : VR μ undefV undefV := .tuple _ _ rfl (by intro i v v' hv; simp at hv)
  split at h
  · cases h; cases hx
    exact ⟨_, w, μ, by simp only [Builtin.clear_, h0, List.getElem?_toArray, List.getElem?_cons_zero, Sem.run_bind, T.run_und htd, Result.andThen_ok]; rfl, μ.le_refl, hr, hu⟩
  · cases h; cases hx
    exact ⟨_, w, μ, by simp only [Builtin.clear_, h0, List.getElem?_toArray, List.getElem?_cons_zero, Sem.run_bind, T.run_und htd, Result.andThen_ok]; rfl, μ.le_refl, hr, hu⟩
  · cases h
    have : ∃ a c, x' = .slice a 0 c := by cases hx <;> exact ⟨_, _, rfl⟩
    obtain ⟨a, c, rfl⟩ := this
    refine ⟨_, w, μ, ?_, μ.le_refl, hr, hu⟩
    simp only [Builtin.clear_, h0, List.getElem?_toArray, List.getElem?_cons_zero, Sem.run_bind, T.run_und htd, Result.andThen_ok]
    cases a <;> cases td <;> rfl
  · rename_i r
    split at h
    case h_2 => cases h
    case h_1 es clock hg =>
      cases h
      cases hx with
      | map _ p hp =>
      obtain ⟨q, a, b, _⟩ := hr.obj r _ hg
      rw [a] at hp; cases hp
      obtain ⟨es', hb, _⟩ := b
      obtain ⟨w', s1, s2⟩ := setMap_ok (P := P) hr hg a (es2 := []) (es2' := #[]) (clock2 := clock) rfl (by intro i e e' h; simp at h)
      refine ⟨_, w', μ, ?_, μ.le_refl, s2, hu⟩
      simp only [Builtin.clear_, h0, List.getElem?_toArray, List.getElem?_cons_zero, Sem.run_bind, T.run_und htd, Result.andThen_ok]
      cases td <;> (simp only [getObj, Sem.run_bind, Sem.run, hb, Result.andThen_ok]; rw [s1]; rfl)
  · rename_i e v0 o sp n c hnz
    simp only [Option.bind_eq_some_iff] at h
    obtain ⟨z, hz, h⟩ := h
    have key : ∀ (p : Pl) (c' : Nat), μ.pl v0 = some p → n ≠ 0 → SOk P B W0 μ w (Builtin.clear_ ts ty #[.slice (some ⟨p.blk, p.off + o, none⟩) n c']) undefV H' := by
      intro p c' hp hn
      obtain ⟨w', a1, a2⟩ := hr.wr P h hp (VL_zeros (T.zeroVR hz) n)
      refine ⟨_, w', μ, ?_, μ.le_refl, a2, hu⟩
      simp only [Builtin.clear_, h0, List.getElem?_toArray, List.getElem?_cons_zero, Sem.run_bind, T.run_und htd, Result.andThen_ok]
      obtain ⟨n, rfl⟩ : ∃ m, n = m + 1 := ⟨n - 1, by omega⟩
      simp only [Sem.run_bind, T.run_zero hz, Result.andThen_ok, zeroCells_eq, a1]
      rfl
    have hn : n ≠ 0 := fun h0 => hnz h0
    cases hx with
    | slc _ _ _ _ p hp => exact key p _ hp hn
    | slo _ _ _ _ p hp => exact key p _ hp hn
    | slcE _ _ q p hp => exact (hn rfl).elim
    | sloE _ _ q p hp => exact (hn rfl).elim
  · cases h

theorem len_ok (hr : HR B W0 μ H w) {t : TypeId} {d : TypeDesc} {x x' : Value} {n : Nat} {ts : Array TypeId} {ty : TypeId} (htd : tyD E t = some d) (h : lenA d H x = some n) (hx : VR μ x x') (h0 : ts[0]? = some t) :
    RdOk P μ w (Builtin.len_ ts ty #[x']) (.int .i64 n) := by
  unfold lenA at h
  split at h
  · cases h; cases hx
    exact ⟨_, by simp only [Builtin.len_, h0, List.getElem?_toArray, List.getElem?_cons_zero, Sem.run_bind, T.run_und htd, Result.andThen_ok]; rfl, .int _ _⟩
  · cases h
    have : ∃ a c, x' = .slice a n c := by cases hx <;> exact ⟨_, _, rfl⟩
    obtain ⟨a, c, rfl⟩ := this
    exact ⟨_, by simp only [Builtin.len_, h0, List.getElem?_toArray, List.getElem?_cons_zero, Sem.run_bind, T.run_und htd, Result.andThen_ok]; rfl, .int _ _⟩
  · cases h; cases hx
    exact ⟨_, by simp only [Builtin.len_, h0, List.getElem?_toArray, List.getElem?_cons_zero, Sem.run_bind, T.run_und htd, Result.andThen_ok]; rfl, .int _ _⟩
  · rename_i r
    split at h
    case h_3 => cases h
    case h_2 es hg =>
      cases h
      cases hx with
      | map _ p hp =>
      obtain ⟨q, a, b, _⟩ := hr.obj r _ hg
      rw [a] at hp; cases hp
      obtain ⟨es1, cl, hpm, es', hb, hl, _⟩ := b
      have hl2 : es.length = es'.size := by
        have := hpm.length_eq
        simp only [List.length_map] at this
        omega
      refine ⟨_, ?_, .int _ _⟩
      simp only [Builtin.len_, h0, List.getElem?_toArray, List.getElem?_cons_zero, Sem.run_bind, T.run_und htd, Result.andThen_ok]
      simp only [getObj, Sem.run_bind, Sem.run, hb, Result.andThen_ok, hl2]
      rfl
    case h_1 es clock hg =>
      cases h
      cases hx with
      | map _ p hp =>
      obtain ⟨q, a, b, _⟩ := hr.obj r _ hg
      rw [a] at hp; cases hp
      obtain ⟨es', hb, hl, _⟩ := b
      refine ⟨_, ?_, .int _ _⟩
      simp only [Builtin.len_, h0, List.getElem?_toArray, List.getElem?_cons_zero, Sem.run_bind, T.run_und htd, Result.andThen_ok]
      simp only [getObj, Sem.run_bind, Sem.run, hb, Result.andThen_ok, hl]
      rfl
  · cases h

omit T in
theorem minMax_ok {isMax : Bool} {ts : Array TypeId} {ty : TypeId} : ∀ (l l' : List Value) (x x' v : Value), minMaxA isMax x l = some v → VR μ x x' → VL μ l l' →
    ∃ v', (l'.foldlM (if isMax then Builtin.max2 else Builtin.min2) x' : Sem Value).run P w = .ok v' w ∧ VR μ v v'
  | [], l', x, x', v, h, hx, hl => by
    simp only [minMaxA, Option.some.injEq] at h
    subst h
    have := hl.nil_inv
    subst this
    exact ⟨x', by simp, hx⟩
  | y :: l, l', x, x', v, h, hx, hl => by
    obtain ⟨y', r, rfl, hy, hr⟩ := hl.cons_inv
    simp only [minMaxA] at h
    split at h
    case h_2 => cases h
    case h_1 k a k2 b =>
      cases hx; cases hy
      obtain ⟨v', i1, i2⟩ := minMax_ok (isMax := isMax) (ts := ts) (ty := ty) l r _ _ v h (.int _ _) hr
      refine ⟨v', ?_, i2⟩
      cases isMax <;> simp [List.foldlM, Builtin.max2, Builtin.min2] at i1 ⊢ <;> exact i1
end
end Go.Vsx
