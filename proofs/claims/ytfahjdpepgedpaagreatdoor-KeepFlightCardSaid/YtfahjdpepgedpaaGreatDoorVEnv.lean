/- The environment that a program gives, and that it fits. -/
import Derived.Test.YtfahjdpepgedpaaGreatDoorVCtl2
set_option linter.all false
namespace Go.Vsx
open Go Go.RowKit

/-- A trie of a function. -/
def genF {α : Type} (f : Nat → Option α) : Nat → Nat → PT α
  | 0, lo => .cell lo (f lo) .leaf
  | d + 1, lo => .node (Nat.add lo (Nat.pow 2 d)) (genF f d lo) (genF f d (Nat.add lo (Nat.pow 2 d)))
def genPT {α : Type} (d : Nat) (f : Nat → Option α) : PT α := genF f d 0

theorem get_genF {α : Type} {x : α} {f : Nat → Option α} : ∀ (d lo n : Nat), (genF f d lo).get n = some x → f n = some x
  | 0, lo, n, h => by
    simp only [genF, PT.get_cell, PT.get_leaf] at h
    split at h
    · rename_i e; subst e; exact h
    · cases h
  | d + 1, lo, n, h => by
    simp only [genF, PT.get_node] at h
    split at h
    · exact get_genF d _ n h
    · exact get_genF d _ n h
theorem get_genPT {α : Type} {x : α} (d : Nat) (f : Nat → Option α) (n : Nat) (h : (genPT d f).get n = some x) : f n = some x := get_genF d 0 n h

/-- A value without blocks. -/
def selfV : Nat → Value → Bool
  | 0, _ => false
  | n + 1, v => match v with
    | .agg cs => cs.toList.all (selfV n)
    | .float _ _ => true
    | v => plainC v

theorem selfV_ok {μ : Mu} : ∀ (n : Nat) (v : Value), selfV n v = true → VR μ v v
  | 0, v, h => by simp [selfV] at h
  | n + 1, v, h => by
    unfold selfV at h
    split at h
    · rename_i cs
      rw [List.all_eq_true] at h
      refine .agg _ _ rfl fun i x x' hx hx' => ?_
      rw [hx] at hx'; cases hx'
      exact selfV_ok n x (h x (by have := Array.mem_of_getElem? hx; simpa using this))
    · exact .float _ _
    · exact plain_ok h

/-- Is a type's zero value one that stands for itself? -/
def zeroFit (x : TypeInfo) : Bool :=
  match x.zero with
  | none => true
  | some z => selfV 20 z && Nat.beq z.cells.size x.size && z.cells.toList.all (·.oneCell')

def mkTI (P : Program) (t : Nat) : Option TI :=
  match P.info? t with
  | none => none
  | some x => match P.underlying t with
    | none => none
    | some d => match zeroFit x with
      | false => none
      | true => some ⟨d, x.size, x.bytes, x.zero, x.comparable, P.stoodInHeld t, P.eqGuardType P.depth t⟩

noncomputable def goodF (E0 : Env) (ng : Nat) (fn : Func) : Bool :=
  !(fn.name == "runtime.NumGoroutine") && match fn.body with
    | none => true
    | some c => okCode E0 ng c

noncomputable def tyEnv (P : Program) : Env := ⟨genPT 12 (mkTI P), .leaf, .leaf, .leaf, .leaf⟩
noncomputable def mkEnvS (P : Program) (ext : PT ExtK) (prim : PT PrimK) (sy : PT (List SE)) : Env := ⟨genPT 12 (mkTI P), genPT 12 (fun f => P.funcs[f]?), ext, prim, sy⟩
noncomputable abbrev mkEnv (P : Program) (ext : PT ExtK) (prim : PT PrimK) : Env := mkEnvS P ext prim .leaf
/-- The static check of one function. -/
noncomputable def chkF (P : Program) (f : Nat) : Bool :=
  match P.funcs[f]? with
  | none => true
  | some fn => goodF (tyEnv P) P.globals.size fn


theorem readsOnly_tt {E E' : Env} (h : E.tt = E'.tt) (o : Oper) : readsOnly E o = readsOnly E' o := by
  unfold readsOnly tyD
  rw [h]
theorem effs_tt {E E' : Env} (h : E.tt = E'.tt) : ∀ (l : List Oper) (i : Nat), effs E l i = effs E' l i
  | [], _ => rfl
  | o :: r, i => by simp only [effs, readsOnly_tt h, effs_tt h]
theorem allOk_tt {E E' : Env} (h : E.tt = E'.tt) {ops : Array Oper} {as fr : List Nat} : ∀ (l done : List (Nat × Oper)), allOk E ops as fr done l = allOk E' ops as fr done l
  | [], _ => rfl
  | x :: r, done => by
    simp only [allOk, allOk_tt h r]
    congr 3
    funext y
    simp only [pairOk, readsOnly_tt h]
theorem lookOk_tt {E E' : Env} (h : E.tt = E'.tt) {ops : Array Oper} {as fr : List Nat} : ∀ (l done : List (Nat × Oper)), lookOk E ops as fr done l = lookOk E' ops as fr done l
  | [], _ => rfl
  | x :: r, done => by simp only [lookOk, lookOk_tt h r, readsOnly_tt h]
theorem drawOk_tt {E E' : Env} (h : E.tt = E'.tt) (ops : Array Oper) : drawOk E ops = drawOk E' ops := by
  simp only [drawOk, effs_tt h, allOk_tt h, lookOk_tt h]
theorem okCode_tt {E E' : Env} (h : E.tt = E'.tt) {ng : Nat} : ∀ c : Code, okCode E ng c = okCode E' ng c
  | .region _ ops d => by simp only [okCode, drawOk_tt h]
  | .seq a b => by simp only [okCode, okCode_tt h a, okCode_tt h b]
  | .cond c a b => by simp only [okCode, okCode_tt h a, okCode_tt h b]
  | .block _ b => by simp only [okCode, okCode_tt h b]
  | .loop b => by simp only [okCode, okCode_tt h b]
  | .skip | .label _ | .exit _ | .ret | .goto _ | .refuse _ => rfl
  | .rangeFunc .. => rfl
  | .scope _ => rfl

theorem mkEnvS_ty (P : Program) (ext : PT ExtK) (prim : PT PrimK) (sy : PT (List SE)) : TyOk P (mkEnvS P ext prim sy) := by
  have key : ∀ t i, (mkEnvS P ext prim sy).tt.get t = some i → ∃ x d, P.info? t = some x ∧ P.underlying t = some d ∧ zeroFit x = true ∧ i = ⟨d, x.size, x.bytes, x.zero, x.comparable, P.stoodInHeld t, P.eqGuardType P.depth t⟩ := by
    intro t i h
    have h := get_genPT _ _ _ h
    unfold mkTI at h
    split at h
    · cases h
    · rename_i x hx
      split at h
      · cases h
      · rename_i d hd
        split at h
        · cases h
        · rename_i hz
          cases h
          exact ⟨x, d, hx, hd, hz, rfl⟩
  refine ⟨?_, ?_, ?_, ?_⟩
  · intro t i h
    obtain ⟨x, d, h1, h2, _, rfl⟩ := key t i h
    exact ⟨x, h1, h2, rfl, rfl, rfl, rfl⟩
  · intro t i h
    obtain ⟨x, d, h1, h2, _, rfl⟩ := key t i h; rfl
  · intro t i h
    obtain ⟨x, d, h1, h2, _, rfl⟩ := key t i h; rfl
  · intro t i z h hz
    obtain ⟨x, d, h1, h2, h3, rfl⟩ := key t i h
    simp only at hz
    unfold zeroFit at h3
    rw [hz] at h3
    simp only [Bool.and_eq_true, List.all_eq_true] at h3
    exact ⟨fun μ => selfV_ok 20 z h3.1.1, Nat.eq_of_beq_eq_true h3.1.2, h3.2⟩

theorem mkEnv_ty (P : Program) (ext : PT ExtK) (prim : PT PrimK) : TyOk P (mkEnv P ext prim) := mkEnvS_ty P ext prim .leaf

theorem mkEnvS_fn {P : Program} (ext : PT ExtK) (prim : PT PrimK) (sy : PT (List SE)) (h : ∀ f, f < P.funcs.size → chkF P f = true) : EnvF P (mkEnvS P ext prim sy) P.globals.size := by
  intro f fn hg
  have hfn := get_genPT _ _ _ hg
  have hlt : f < P.funcs.size := (Array.getElem?_eq_some_iff.1 hfn).1
  have hc := h f hlt
  unfold chkF at hc
  rw [hfn] at hc
  simp only [goodF, Bool.and_eq_true, Bool.not_eq_true'] at hc
  refine ⟨hfn, hc.1, fun c hb => ?_⟩
  have h2 := hc.2
  rw [hb] at h2
  rw [okCode_tt (E := mkEnvS P ext prim sy) (E' := tyEnv P) rfl]; exact h2

theorem all_range {p : Nat → Bool} {a n : Nat} (h : (List.range' a n).all p = true) : ∀ f, a ≤ f → f < a + n → p f = true := by
  intro f h1 h2
  rw [List.all_eq_true] at h
  exact h f (by rw [List.mem_range']; exact ⟨f - a, by omega, by omega⟩)
end Go.Vsx
