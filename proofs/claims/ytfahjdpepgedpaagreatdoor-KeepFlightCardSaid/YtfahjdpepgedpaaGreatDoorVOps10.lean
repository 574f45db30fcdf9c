/- The operations are right, 10: every operation of the executor. -/
import Derived.Test.YtfahjdpepgedpaaGreatDoorVOps9
set_option linter.all false
namespace Go.Vsx
open Go Go.RowKit

def got : Next → Option Value
  | .value v => some v
  | .skip => some undef
  | _ => none

def AOk (P : Program) (B : Nat) (W0 : World) (μ : Mu) (w : World) (s : Sem Next) : AR → Prop
  | .val v H' => ∃ n w' μ' v', s.run P w = .ok n w' ∧ μ.le μ' ∧ HR B W0 μ' H' w' ∧ got n = some v' ∧ VR μ' v v'
  | .call f args => ∃ args' : Array Value, s.run P w = (callFunc f args').run P w ∧ VL μ args args'.toList

def ExtOk (P : Program) (E : Env) : Prop :=
  ∀ f k, E.ext.get f = some k → ∀ (B : Nat) (W0 : World) (μ : Mu) (H : Heap) (w : World) (args : List Value) (args' : Array Value) (v : Value) (H' : Heap),
    SymOk E μ → HR B W0 μ H w → VL μ args args'.toList → extA E k H args = some (v, H') →
    ∃ v' w' μ', (callFunc f args').run P w = .ok (.value v') w' ∧ μ.le μ' ∧ HR B W0 μ' H' w' ∧ VR μ' v v'

theorem toArr {α β : Type} (f : α → β) (a : Array α) : (a.toList.map f).toArray = a.map f := by apply Array.toList_inj.1; simp

theorem usDef_none (ts : Array TypeId) (ty : TypeId) (l : Value) : Builtin.unsafeString_ ts ty #[.pointer none, l] =
      (do
        let n ← asInt l
        let some _pt := ts[0]? | stuck "unsafe.String: no argument types"
        if n < 0 then runtimePanic (.error "unsafe.String: len out of range")
        if n > IntKind.i64.max then unsupported (.unsafePointer "String: a length above the largest int")
        if n = 0 then pure (.string .empty)
        else runtimePanic (.error "unsafe.String: ptr is nil and len is not zero")) := rfl

section
variable {P : Program} {E : Env} {B : Nat} {W0 w : World} {μ : Mu} {H H' : Heap}

theorem SOk.val {s : Sem Value} {v : Value} (h : SOk P B W0 μ w s v H') : AOk P B W0 μ w (do pure (.value (← s))) (.val v H') := by
  obtain ⟨v', w', μ', a, b, c, d⟩ := h
  exact ⟨.value v', w', μ', v', by simp only [Sem.run_bind, a, Result.andThen_ok]; rfl, b, c, rfl, d⟩
theorem RdOk.val {s : Sem Value} {v : Value} (h : RdOk P μ w s v) (hr : HR B W0 μ H w) : AOk P B W0 μ w (do pure (.value (← s))) (.val v H) := (h.sok hr).val
theorem unitOk {s : Sem Unit} (h : ∃ w', s.run P w = .ok () w' ∧ HR B W0 μ H' w') : AOk P B W0 μ w (do s; pure .skip) (.val undefV H') := by
  obtain ⟨w', a, b⟩ := h
  refine ⟨.skip, w', μ, undef, by simp only [Sem.run_bind, a, Result.andThen_ok]; rfl, μ.le_refl, b, rfl, ?_⟩
  exact .tuple _ _ rfl (by intro i v v' hv; simp at hv)
theorem pureOk (hr : HR B W0 μ H w) {v v' : Value} (hv : VR μ v v') : AOk P B W0 μ w (pure (.value v')) (.val v H) := ⟨.value v', w, μ, v', rfl, μ.le_refl, hr, rfl, hv⟩

variable {ρ ρ' : Operand → Value} (hρ : ∀ x, VR μ (ρ x) (ρ' x))
include hρ
theorem VL.map : ∀ (l : List Operand), VL μ (l.map ρ) (l.map ρ')
  | [] => VL.nil
  | x :: l => VL.cons (hρ x) (VL.map l)
theorem PL.map : ∀ (l : List (Nat × Operand)), PL μ (l.map fun x => (x.1, ρ x.2)) (l.map fun x => (x.1, ρ' x.2))
  | [] => trivial
  | x :: l => ⟨rfl, hρ x.2, PL.map l⟩
theorem OV.map (x : Option Operand) : OV μ (x.map ρ) (x.map ρ') := by cases x <;> simp [OV, hρ]

theorem callV_ok (X : ExtOk P E) (Y : SymOk E μ) (hr : HR B W0 μ H w) {f : Operand} {args : List Operand} {r : AR} (h : callV E ρ H (ρ f) (args.map ρ) = some r) :
    AOk P B W0 μ w (do let d ← Deferred.ofValue (ρ' f) (args.map ρ').toArray; invoke d.target d.args) r := by
  unfold callV at h
  split at h
  case h_2 => cases h
  case h_1 g first captured hf =>
  have h1 := hρ f
  rw [hf] at h1
  generalize ρ' f = f' at h1
  cases h1 with
  | func _ _ first' _ captured' s1 s2 e1 e2 =>
  have hl := VL.map hρ args
  have hall : VL μ (first.toList ++ args.map ρ ++ captured.toList) ((first' ++ (args.map ρ').toArray ++ captured').toList) := by
    simp only [Array.toList_append]
    exact ((VA.toList ⟨s1, e1⟩).append hl).append (VA.toList ⟨s2, e2⟩)
  have hrun : (do let d ← Deferred.ofValue (.func (.func g) first' captured') (args.map ρ').toArray; invoke d.target d.args : Sem Next).run P w = (callFunc g (first' ++ (args.map ρ').toArray ++ captured')).run P w := by
    simp [Deferred.ofValue, invoke]
  simp only [] at h
  split at h
  · rename_i k hk
    simp only [Option.map_eq_some_iff] at h
    obtain ⟨⟨v, H2⟩, h1, h2⟩ := h
    cases h2
    obtain ⟨v', w', μ', a, b, c, d⟩ := X g k hk B W0 μ H w _ _ v H2 Y hr hall h1
    exact ⟨.value v', w', μ', v', by rw [hrun]; exact a, b, c, rfl, d⟩
  · cases h
    exact ⟨_, hrun, hall⟩

theorem builtin_ok (T : TyOk P E) (Y : SymOk E μ) (hr : HR B W0 μ H w) {b : Builtin} {ts : Array TypeId} {ty : TypeId} {cs : Array Bool} {args : List Operand} {r : AR} (h : builtinA E H b ts ty (args.map ρ) = some r) :
    AOk P B W0 μ w (builtin b ts ty cs (args.map ρ').toArray) r := by
  have hl := VL.map hρ args
  generalize args.map ρ = l at h hl
  generalize args.map ρ' = l' at hl
  unfold builtinA at h
  split at h <;> (try (cases h; done))
  · -- append
    obtain ⟨s', r1, rfl, hs, hr1⟩ := hl.cons_inv
    obtain ⟨x', r2, rfl, hx, hr2⟩ := hr1.cons_inv
    obtain rfl := hr2.nil_inv
    simp only [Option.bind_eq_bind, Option.bind_eq_some_iff] at h
    obtain ⟨t0, h0, t1, h1, ⟨v, H2⟩, h2, h3⟩ := h
    cases h3
    refine (append_ok T hr h2 hs hx h0 h1 fun a e => ⟨fun n hz => ?_, fun sz v o hlk => ?_⟩).val
    · subst e
      unfold lenZ at hz
      split at hz
      case h_2 => cases hz
      case h_1 k z hlk =>
      split at hz
      case isFalse => cases hz
      case isTrue h0' =>
      cases hz
      obtain ⟨ad, l, c, g1, g2⟩ := Y _ _ _ _ hlk
      have e1 := hx.one (symLook_mem hlk).1 g1
      have hz : z = (l : Int) := by
        generalize hq : ((l : Nat) : Int) = q at g2
        cases g2
        rfl
      subst hz
      exact ⟨ad, c, by rw [e1]; simp⟩
    · subst e
      obtain ⟨blk, off, l, c, k, i, g1, g2, g3, g4⟩ := Y _ _ _ _ hlk
      have e1 := hx.one (symLook_mem hlk).1 g1
      have hi : i = 0 := by
        generalize hz : ((i : Nat) : Int) = z at g2
        cases g2
        omega
      subst hi
      rw [Nat.zero_mul, Nat.add_zero] at g4
      generalize hq : Value.pointer (some ⟨blk, off, none⟩) = q at g4
      cases g4 with
      | ptr _ _ p hp =>
        cases hq
        exact ⟨p, l, c, hp, e1⟩
  · -- len
    obtain ⟨x', r1, rfl, hx, hr1⟩ := hl.cons_inv
    obtain rfl := hr1.nil_inv
    simp only [Option.bind_eq_bind, Option.bind_eq_some_iff] at h
    obtain ⟨t, h0, d, hd, h⟩ := h
    split at h
    · rename_i n e
      cases h
      refine RdOk.val ⟨.int .i64 n, ?_, .int _ _⟩ hr
      simp only [Builtin.len_, h0, List.getElem?_toArray, List.getElem?_cons_zero, Sem.run_bind, T.run_und hd, Result.andThen_ok]
      rfl
    · simp only [Option.bind_eq_some_iff] at h
      obtain ⟨n, hn, h⟩ := h
      cases h
      exact (len_ok T hr hd hn hx h0).val hr
  · -- cap
    obtain ⟨x', r1, rfl, hx, hr1⟩ := hl.cons_inv
    obtain rfl := hr1.nil_inv
    simp only [Option.bind_eq_bind, Option.bind_eq_some_iff] at h
    obtain ⟨t, h0, d, hd, h⟩ := h
    split at h
    · cases h
      cases hx
      refine RdOk.val ⟨.int .i64 _, ?_, .int _ _⟩ hr
      simp only [Builtin.cap_, h0, List.getElem?_toArray, List.getElem?_cons_zero, Sem.run_bind, T.run_und hd, Result.andThen_ok]
      rfl
    · cases h
      cases hx <;>
      (refine RdOk.val ⟨.int .i64 _, ?_, .int _ _⟩ hr
       simp only [Builtin.cap_, h0, List.getElem?_toArray, List.getElem?_cons_zero, Sem.run_bind, T.run_und hd, Result.andThen_ok]
       rfl)
    · cases h
  · -- copy
    obtain ⟨s', r1, rfl, hs, hr1⟩ := hl.cons_inv
    obtain ⟨x', r2, rfl, hx, hr2⟩ := hr1.cons_inv
    obtain rfl := hr2.nil_inv
    simp only [Option.bind_eq_bind, Option.bind_eq_some_iff] at h
    obtain ⟨t0, h0, ⟨v, H2⟩, h2, h3⟩ := h
    cases h3
    exact (copy_ok T hr h2 hs hx h0).val
  · -- clear
    obtain ⟨x', r1, rfl, hx, hr1⟩ := hl.cons_inv
    obtain rfl := hr1.nil_inv
    simp only [Option.bind_eq_bind, Option.bind_eq_some_iff] at h
    obtain ⟨t0, h0, H2, h2, h3⟩ := h
    cases h3
    exact (clear_ok T hr h2 hx h0).val
  · -- delete
    obtain ⟨s', r1, rfl, hs, hr1⟩ := hl.cons_inv
    obtain ⟨x', r2, rfl, hx, hr2⟩ := hr1.cons_inv
    obtain rfl := hr2.nil_inv
    simp only [Option.bind_eq_bind, Option.bind_eq_some_iff] at h
    obtain ⟨t0, h0, H2, h2, h3⟩ := h
    cases h3
    exact (delete_ok T Y hr h2 hs hx h0).val
  · -- min
    obtain ⟨x', r1, rfl, hx, hr1⟩ := hl.cons_inv
    simp only [Option.map_eq_some_iff] at h
    obtain ⟨v, h1, h2⟩ := h
    cases h2
    obtain ⟨v', a, b⟩ := minMax_ok (P := P) (w := w) (isMax := false) (ts := ts) (ty := ty) _ _ _ _ _ h1 hx hr1
    exact RdOk.val ⟨v', by simpa [Builtin.min_] using a, b⟩ hr
  · -- max
    obtain ⟨x', r1, rfl, hx, hr1⟩ := hl.cons_inv
    simp only [Option.map_eq_some_iff] at h
    obtain ⟨v, h1, h2⟩ := h
    cases h2
    obtain ⟨v', a, b⟩ := minMax_ok (P := P) (w := w) (isMax := true) (ts := ts) (ty := ty) _ _ _ _ _ h1 hx hr1
    exact RdOk.val ⟨v', by simpa [Builtin.max_] using a, b⟩ hr
  · -- unsafeSliceData of nil
    obtain ⟨x', r1, rfl, hx, hr1⟩ := hl.cons_inv
    obtain rfl := hr1.nil_inv
    cases h
    cases hx
    exact RdOk.val ⟨.pointer none, rfl, .ptrN⟩ hr
  · -- unsafeSliceData
    obtain ⟨x', r1, rfl, hx, hr1⟩ := hl.cons_inv
    obtain rfl := hr1.nil_inv
    split at h
    case isFalse => cases h
    case isTrue hc =>
    cases h
    cases hx with
    | slc v o n c p hp => exact RdOk.val ⟨_, Lib.run_unsafeSliceData_row _ _ _ _ _ _ hc, .ptr _ _ p hp⟩ hr
    | slo v o n c p hp => exact RdOk.val ⟨_, Lib.run_unsafeSliceData_row _ _ _ _ _ _ (by omega), .ptr _ _ p hp⟩ hr
    | slcE => exact absurd rfl hc
    | sloE => exact absurd rfl hc
  · -- unsafeString of nil
    obtain ⟨x', r1, rfl, hx, hr1⟩ := hl.cons_inv
    obtain ⟨y', r2, rfl, hy, hr2⟩ := hr1.cons_inv
    obtain rfl := hr2.nil_inv
    simp only [Option.map_eq_some_iff] at h
    obtain ⟨t, h0, h⟩ := h
    cases h
    cases hx
    cases hy
    have hmax : IntKind.i64.max = 9223372036854775807 := rfl
    refine RdOk.val ⟨.string .empty, ?_, .str _⟩ hr
    rw [usDef_none]
    simp [asInt, asIntOf, h0, hmax]
  · -- unsafeString
    obtain ⟨x', r1, rfl, hx, hr1⟩ := hl.cons_inv
    obtain ⟨y', r2, rfl, hy, hr2⟩ := hr1.cons_inv
    obtain rfl := hr2.nil_inv
    simp only [Option.bind_eq_bind, Option.bind_eq_some_iff] at h
    obtain ⟨t, h0, h⟩ := h
    cases hy
    obtain ⟨u, H2, rfl, h2⟩ := unsafeString_ok T hr h hx h0
    exact h2.val

theorem aop0_ok (T : TyOk P E) (X : ExtOk P E) (Y : SymOk E μ) (hr : HR B W0 μ H w) {o : Oper} {r : AR} (h : aop0 E ρ o H = some r) : AOk P B W0 μ w (execOp ρ' o) r := by
  obtain ⟨dst, op, type, pos, after, guard⟩ := o
  cases op <;> simp only [aop0] at h <;> (try (cases h; done)) <;> simp only [execOp]
  case move x => cases h; exact pureOk hr (hρ x)
  case assign x => cases h; exact pureOk hr (hρ x)
  case pick c a b =>
    split at h
    · rename_i t hc
      cases h
      have h1 := hρ c
      rw [hc] at h1
      generalize ρ' c = c' at h1
      cases h1
      refine ⟨.value (if t then ρ' a else ρ' b), w, μ, _, ?_, μ.le_refl, hr, rfl, ?_⟩
      · simp [asBool]
      · cases t
        · exact hρ b
        · exact hρ a
    · cases h
  case alloc e =>
    simp only [Option.bind_eq_bind, Option.bind_eq_some_iff] at h
    obtain ⟨z, hz, ⟨v, H2⟩, h1, h2⟩ := h
    cases h2
    exact (alloc_ok T hr hz h1).val
  case box e x =>
    split at h
    case h_2 => cases h
    case h_1 hk =>
    simp only [Option.bind_eq_bind, Option.bind_eq_some_iff] at h
    obtain ⟨⟨v, H2⟩, h1, h2⟩ := h
    cases h2
    exact (box_ok hr hk h1 (hρ x)).val
  case build t ps =>
    simp only [Option.map_eq_some_iff] at h
    obtain ⟨v, h1, h2⟩ := h
    cases h2
    have := (build_ok T hr h1 (PL.map hρ ps.toList)).val (H := H) hr
    rw [toArr] at this
    exact this
  case buildSlice t n ps =>
    simp only [Option.map_eq_some_iff] at h
    obtain ⟨⟨v, H2⟩, h1, h2⟩ := h
    cases h2
    have := (buildSlice_ok T hr h1 (PL.map hρ ps.toList)).val
    rw [toArr] at this
    exact this
  case load t a =>
    simp only [Option.map_eq_some_iff] at h
    obtain ⟨v, h1, h2⟩ := h
    cases h2
    exact (loadVar_ok T hr h1 (hρ a)).val hr
  case store t a x =>
    simp only [Option.map_eq_some_iff] at h
    obtain ⟨H2, h1, h2⟩ := h
    cases h2
    exact unitOk (storeVar_ok T hr h1 (hρ a) (hρ x))
  case nilCheck x =>
    split at h
    · rename_i a hx
      cases h
      have h1 := hρ x
      rw [hx] at h1
      generalize ρ' x = x' at h1
      have h3 := h1
      cases h1
      exact pureOk hr h3
    · cases h
  case binOp op t x y yt =>
    simp only [Option.map_eq_some_iff] at h
    obtain ⟨v, h1, h2⟩ := h
    cases h2
    exact (bin_ok T Y hr h1 (hρ x) (hρ y)).val hr
  case unOp op t x =>
    simp only [Option.map_eq_some_iff] at h
    obtain ⟨v, h1, h2⟩ := h
    cases h2
    exact (un_ok h1 (hρ x)).val hr
  case convert s d x =>
    simp only [Option.map_eq_some_iff] at h
    obtain ⟨⟨v, H2⟩, h1, h2⟩ := h
    cases h2
    exact (conv_ok T Y hr h1 (hρ x)).val
  case makeInterface t x =>
    split at h
    · cases h
    · rename_i d hn hd
      cases h
      exact (makeInterface_ok T hd (fun ms e => by subst e; simp_all) (hρ x)).val hr
    · cases h
  case makeFunc fn first captured =>
    cases h
    refine pureOk hr (VR.func _ _ _ _ _ (by simp) (by simp) ?_ ?_)
    · intro i v v' h1 h2
      simp only [Array.getElem?_map, Option.map_eq_some_iff] at h1 h2
      obtain ⟨x, hx, rfl⟩ := h1
      obtain ⟨y, hy, rfl⟩ := h2
      rw [hx] at hy; cases hy
      exact hρ x
    · intro i v v' h1 h2
      simp only [Array.getElem?_map, Option.map_eq_some_iff] at h1 h2
      obtain ⟨x, hx, rfl⟩ := h1
      obtain ⟨y, hy, rfl⟩ := h2
      rw [hx] at hy; cases hy
      exact hρ x
  case makeMap t r =>
    cases r with
    | some r => cases h
    | none => cases h; exact (makeMap_ok hr).val
  case makeSlice t l c =>
    simp only [Option.map_eq_some_iff] at h
    obtain ⟨⟨v, H2⟩, h1, h2⟩ := h
    cases h2
    exact (makeSlice_ok T hr h1 (hρ l) (hρ c)).val
  case slice t x lo hi mx =>
    simp only [Option.map_eq_some_iff] at h
    obtain ⟨v, h1, h2⟩ := h
    cases h2
    exact (slice_ok T h1 (hρ x) (OV.map hρ lo) (OV.map hρ hi) (OV.map hρ mx)).val hr
  case fieldAddr t x f =>
    simp only [Option.map_eq_some_iff] at h
    obtain ⟨v, h1, h2⟩ := h
    cases h2
    exact (fieldAddr_ok T h1 (hρ x)).val hr
  case field t x f =>
    simp only [Option.map_eq_some_iff] at h
    obtain ⟨v, h1, h2⟩ := h
    cases h2
    exact (field_ok T h1 (hρ x)).val hr
  case indexAddr t x i =>
    simp only [Option.map_eq_some_iff] at h
    obtain ⟨v, h1, h2⟩ := h
    cases h2
    exact (indexAddr_ok T h1 (hρ x) (fixI_ok Y (hρ i))).val hr
  case index t x i =>
    simp only [Option.map_eq_some_iff] at h
    obtain ⟨v, h1, h2⟩ := h
    cases h2
    exact (index_ok T h1 (hρ x) (fixI_ok Y (hρ i))).val hr
  case lookup t x k ok =>
    simp only [Option.map_eq_some_iff] at h
    obtain ⟨v, h1, h2⟩ := h
    cases h2
    exact (lookup_ok T Y hr h1 (hρ x) (hρ k)).val hr
  case mapUpdate t m k x =>
    simp only [Option.map_eq_some_iff] at h
    obtain ⟨H2, h1, h2⟩ := h
    cases h2
    exact unitOk (mapUpdate_ok T Y hr h1 (hρ m) (hρ k) (hρ x))
  case insert t m k x =>
    simp only [Option.map_eq_some_iff] at h
    obtain ⟨H2, h1, h2⟩ := h
    cases h2
    exact unitOk (mapUpdate_ok T Y hr h1 (hρ m) (hρ k) (hρ x))
  case range t x =>
    simp only [Option.map_eq_some_iff] at h
    obtain ⟨⟨v, H2⟩, h1, h2⟩ := h
    cases h2
    exact (range_ok T hr h1 (hρ x)).val
  case next it s =>
    simp only [Option.map_eq_some_iff] at h
    obtain ⟨⟨v, H2⟩, h1, h2⟩ := h
    cases h2
    exact (next_ok hr h1 (hρ it)).val
  case entry it =>
    simp only [Option.map_eq_some_iff] at h
    obtain ⟨v, h1, h2⟩ := h
    cases h2
    exact (entry_ok hr h1 (hρ it)).val hr
  case typeAssert x xt a ok =>
    simp only [Option.map_eq_some_iff] at h
    obtain ⟨v, h1, h2⟩ := h
    cases h2
    exact (typeAssert_ok T h1 (hρ x)).val hr
  case extract t i =>
    split at h
    · rename_i vs hv
      simp only [Option.map_eq_some_iff] at h
      obtain ⟨v, h1, h2⟩ := h
      cases h2
      have h3 := hρ t
      rw [hv] at h3
      exact (extract_ok h1 h3).val hr
    · cases h
  case call c =>
    split at h
    · rename_i b hb
      have key := fun cs => builtin_ok hρ T Y hr (cs := cs) (ty := type) h
      rw [toArr] at key
      simp only [resolve, hb]
      obtain ⟨cs, hcs⟩ : ∃ cs : Array Bool, cs = c.args.map fun | .const _ => true | _ => false := ⟨_, rfl⟩
      have := key cs
      rw [hcs] at this
      exact this
    · rename_i f hf
      have := callV_ok hρ X Y hr h
      rw [toArr] at this
      simp only [resolve, hf]
      simpa using this
    · cases h
def noMuX : Mu := ⟨fun v => if v = 0 then some ⟨0, 0, 0⟩ else none, fun _ => none, fun _ => none⟩

theorem symA_ok (T : TyOk P E) (Y : SymOk E μ) (hr : HR B W0 μ H w) {o : Oper} {v : Value} (h : symA E ρ o = some v) : AOk P B W0 μ w (execOp ρ' o) (.val v H) := by
  obtain ⟨dst, op, type, pos, after, guard⟩ := o
  cases op <;> simp only [symA] at h <;> (try (cases h; done)) <;> simp only [execOp]
  case binOp op t x y yt =>
    unfold symBin at h
    split at h
    case h_1 v' hl =>
      cases h
      obtain ⟨o1, o2, _⟩ := symLook_mem hl
      obtain ⟨k, k', a, b, r', h1, h2, h3, h4⟩ := Y _ _ _ _ hl
      have e1 := (hρ x).one o1 h1
      have e2 := (hρ y).one o2 h2
      rw [e1, e2]
      unfold intOpX at h3
      split at h3
      · obtain ⟨p1, p2⟩ := shift_ok (P := P) (w := w) (μ := μ) (t := t) (k' := k') h3
        exact RdOk.val ⟨r', two_run (by rw [eqGuard_at_int]; rfl) p1, h4⟩ hr
      · obtain ⟨p1, p2⟩ := shift_ok (P := P) (w := w) (μ := μ) (t := t) (k' := k') h3
        exact RdOk.val ⟨r', two_run (by rw [eqGuard_at_int]; rfl) p1, h4⟩ hr
      · split at h3
        case isFalse => cases h3
        case isTrue hk =>
        subst hk
        obtain ⟨p1, p2⟩ := intOp_ok (P := P) (w := w) (μ := μ) (t := t) h3
        exact RdOk.val ⟨r', two_run (by rw [eqGuard_at_int]; rfl) p1, h4⟩ hr
    case h_2 =>
    split at h
    case h_1 v' hl =>
      cases h
      obtain ⟨o1, o2, _⟩ := symLook_mem hl
      obtain ⟨a, b, r', h1, h2, h3, h4⟩ := Y _ _ _ _ hl
      have e1 := (hρ x).one o1 h1
      have e2 := (hρ y).one o2 h2
      rw [e1, e2]
      obtain ⟨p1, p2⟩ := strOp_ok (P := P) (w := w) (μ := μ) (t := t) h3
      exact RdOk.val ⟨r', two_run (by unfold eqGuard; cases op <;> rfl) p1, h4⟩ hr
    case h_2 =>
      unfold symNil at h
      split at h
      case h_2 => cases h
      case h_1 a l c hx hy =>
      split at h
      case h_2 => cases h
      case h_1 e b hd hlk =>
      obtain ⟨ad, l', c', g1, g2⟩ := Y _ _ _ _ hlk
      have h5 := hρ x
      rw [hx] at h5
      have e1 := h5.one (symLook_mem hlk).1 g1
      have h6 := hρ y
      rw [hy] at h6
      have hb : b = ad.isNone := by
        generalize hq : Value.bool ad.isNone = q at g2
        cases g2
        cases hq; rfl
      obtain ⟨l2, c2, e2⟩ : ∃ l2 c2, ρ' y = .slice none l2 c2 := by
        generalize ρ' y = y' at h6
        cases h6; exact ⟨_, _, rfl⟩
      have hu := T.und hd
      have heq : (Op.equal t (.slice ad l' c') (.slice none l2 c2)).run P w = .ok b w := by
        show (Op.equalIn Op.maxDepth t _ _).run P w = _
        obtain ⟨D, hD⟩ : ∃ D, Op.maxDepth = D + 1 := ⟨Op.maxDepth - 1, by decide⟩
        rw [hD, hb]
        simp only [Op.equalIn, Sem.run_bind, run_underlying hu, Result.andThen_ok]
        cases ad <;> rfl
      have hg : (eqGuard op t x y (.slice ad l' c') (.slice none l2 c2)).run P w = .ok () w := by
        unfold eqGuard
        cases op <;> rfl
      rw [e1, e2]
      split at h
      · cases h
        refine RdOk.val ⟨.bool b, two_run hg ?_, .bool b⟩ hr
        rw [binOp_eql_run (P := P) (w := w) t (.slice ad l' c') (.slice none l2 c2) (by intro _ _ h; cases h) (by intro _ h; cases h) (by intro _ _ h; cases h) (by intro _ _ _ h; cases h), heq]
        rfl
      · cases h
        refine RdOk.val ⟨.bool !b, two_run hg ?_, .bool _⟩ hr
        rw [binOp_neq_run (P := P) (w := w) t (.slice ad l' c') (.slice none l2 c2) (by intro _ _ h; cases h) (by intro _ h; cases h) (by intro _ _ h; cases h) (by intro _ _ _ h; cases h), heq]
        rfl
      · cases h
  case convert s d x =>
    unfold symConv at h
    split at h
    case h_2 => cases h
    case h_1 a ha =>
    split at h
    case h_2 => cases h
    case h_1 ks k hs hd =>
    obtain ⟨k0, n, h1, h2⟩ := Y _ _ _ _ h
    have h3 := hρ x
    rw [ha] at h3
    have e1 := h3.one (symLook_mem h).1 h1
    rw [e1]
    refine RdOk.val ⟨.int k (k.wrap n), ?_, h2⟩ hr
    simp only [convert, Sem.run_bind, T.run_und hs, T.run_und hd, Result.andThen_ok]; rfl
  case indexAddr t x i =>
    unfold symIdx at h
    split at h
    case h_2 => cases h
    case h_1 a ha =>
    split at h
    case h_2 => cases h
    case h_1 e hd =>
    split at h
    case h_2 => cases h
    case h_1 s hs =>
    obtain ⟨o1, o2, _⟩ := symLook_mem h
    obtain ⟨blk, off, l, c, k, j, h1, h2, h3, h4⟩ := Y _ _ _ _ h
    have h5 := hρ x
    rw [ha] at h5
    have e1 := h5.one o1 h1
    have e2 := (hρ i).one o2 h2
    rw [e1, e2]
    refine RdOk.val ⟨_, ?_, h4⟩ hr
    have hb : (0 : Int) ≤ (j : Int) ∧ (j : Int) < (l : Int) := ⟨by omega, by omega⟩
    simp [Instr.indexAt, asIntOf, T.run_und hd, T.run_size hs, Addr.add_none, Nat.not_le.2 h3]
    try omega
  case slice t x lo hi mx =>
    unfold symSl at h
    split at h
    case h_3 => cases h
    case h_2 a hh hx0 hlo hhi hmx =>
      split at h
      case h_2 => cases h
      case h_1 hd =>
      obtain ⟨o1, o2, _⟩ := symLook_mem h
      obtain ⟨s, k, n, h1, h2, h3, h4⟩ := Y _ _ _ _ h
      have h5 := hρ x
      rw [hx0] at h5
      have e1 := h5.one o1 h1
      obtain ⟨yo, rfl⟩ : ∃ y, lo = some y := by cases lo with | none => cases hlo | some y => exact ⟨y, rfl⟩
      obtain rfl : hi = none := by cases hi with | none => rfl | some y => cases hhi
      obtain rfl : mx = none := by cases mx with | none => rfl | some y => cases hmx
      simp only [Option.map_some, Option.some.injEq] at hlo
      have h6 := hρ yo
      rw [hlo] at h6
      have e2 := h6.one o2 h2
      rw [e1]
      simp only [Option.map_none, Option.map_some]
      rw [e2]
      refine RdOk.val ⟨_, ?_, h4⟩ hr
      have ud := T.run_und (w := w) hd
      simp only [Instr.sliceAt, Sem.run_bind, ud, Result.andThen_ok]
      simp only [Instr.slice, Sem.run_bind, ud, Result.andThen_ok]
      have hb : boundsA s.size s.size (some (.int k (n : Int))) none none = some (n, s.size, s.size) := by
        have hn : (0 : Int) ≤ (n : Int) ∧ (n : Int) ≤ (s.size : Int) := ⟨by omega, by omega⟩
        simp [boundsA, natIn, hn, Nat.ble_eq, h3]
      obtain ⟨a, c1, c2, c3⟩ := bounds_ok (P := P) (w := w) (μ := noMuX) (lo' := some (.int k (n : Int))) (hi' := none) (mx' := none) hb (.int _ _) trivial trivial false 0
      simp only [Nat.add_zero, Option.isSome_none, Bool.false_eq_true, if_false] at a
      simp [a]
    case h_1 a hh hx0 hlo hhi hmx =>
    split at h
    case h_3 => cases h
    case h_2 hd =>
      obtain ⟨o1, o2, _⟩ := symLook_mem h
      obtain ⟨s, k, n, h1, h2, h3, h4⟩ := Y _ _ _ _ h
      have h5 := hρ x
      rw [hx0] at h5
      have e1 := h5.one o1 h1
      obtain ⟨yo, rfl⟩ : ∃ y, hi = some y := by cases hi with | none => cases hhi | some y => exact ⟨y, rfl⟩
      obtain rfl : lo = none := by cases lo with | none => rfl | some y => cases hlo
      obtain rfl : mx = none := by cases mx with | none => rfl | some y => cases hmx
      simp only [Option.map_some, Option.some.injEq] at hhi
      have h6 := hρ yo
      rw [hhi] at h6
      have e2 := h6.one o2 h2
      rw [e1]
      simp only [Option.map_none, Option.map_some]
      rw [e2]
      refine RdOk.val ⟨_, ?_, h4⟩ hr
      have ud := T.run_und (w := w) hd
      simp only [Instr.sliceAt, Sem.run_bind, ud, Result.andThen_ok]
      simp only [Instr.slice, Sem.run_bind, ud, Result.andThen_ok]
      have hb : boundsA s.size s.size none (some (.int k (n : Int))) none = some (0, n, s.size) := by
        have hn : (0 : Int) ≤ (n : Int) ∧ (n : Int) ≤ (s.size : Int) := ⟨by omega, by omega⟩
        simp [boundsA, natIn, hn, Nat.ble_eq, h3]
      obtain ⟨a, c1, c2, c3⟩ := bounds_ok (P := P) (w := w) (μ := noMuX) (lo' := none) (hi' := some (.int k (n : Int))) (mx' := none) hb trivial (.int _ _) trivial false 0
      simp only [Nat.add_zero, Option.isSome_none, Bool.false_eq_true, if_false] at a
      simp [a]
    case h_1 e hd =>
    split at h
    case h_2 => cases h
    case h_1 s hs =>
    obtain ⟨o1, o2, _⟩ := symLook_mem h
    obtain ⟨ad, l, c, k, n, h1, h2, h3, hc0, h4⟩ := Y _ _ _ _ h
    have h5 := hρ x
    rw [hx0] at h5
    have e1 := h5.one o1 h1
    obtain ⟨yo, rfl⟩ : ∃ y, hi = some y := by cases hi with | none => cases hhi | some y => exact ⟨y, rfl⟩
    obtain rfl : lo = none := by cases lo with | none => rfl | some y => cases hlo
    obtain rfl : mx = none := by cases mx with | none => rfl | some y => cases hmx
    simp only [Option.map_some, Option.some.injEq] at hhi
    have h6 := hρ yo
    rw [hhi] at h6
    have e2 := h6.one o2 h2
    rw [e1]
    simp only [Option.map_none, Option.map_some]
    rw [e2]
    refine RdOk.val ⟨_, ?_, h4⟩ hr
    have ud := T.run_und (w := w) hd
    simp only [Instr.sliceAt, Sem.run_bind, ud, Result.andThen_ok]
    simp only [Instr.slice, Sem.run_bind, ud, Result.andThen_ok, T.run_size hs]
    have hb : boundsA l c none (some (.int k (n : Int))) none = some (0, n, c) := by
      have hn : (0 : Int) ≤ (n : Int) ∧ (n : Int) ≤ (c : Int) := ⟨by omega, by omega⟩
      simp [boundsA, natIn, hn, Nat.ble_eq, h3]
    obtain ⟨a, c1, c2, c3⟩ := bounds_ok (P := P) (w := w) (μ := noMuX) (lo' := none) (hi' := some (.int k (n : Int))) (mx' := none) hb trivial (.int _ _) trivial true 0
    simp only [Nat.add_zero, Option.isSome_none, Bool.false_eq_true, if_false] at a
    simp only [a, Result.andThen_ok]
    rcases hc0 with rfl | ⟨blk, off, rfl⟩
    · simp
    · by_cases hc : c = 0
      · subst hc; simp
      · simp [hc, Addr.add]
  case call c =>
    split at h
    case h_2 => cases h
    case h_1 b hb =>
    unfold symLen at h
    split at h
    case h_4 => cases h
    case h_1 a hargs =>
      split at h
      case h_2 => cases h
      case h_1 t ht =>
      split at h
      case h_3 => cases h
      case h_2 hd =>
        obtain ⟨s, h1, h2⟩ := Y _ _ _ _ h
        obtain ⟨x, hx⟩ : ∃ x, c.args.toList = [x] := by
          cases hl : c.args.toList with
          | nil => rw [hl] at hargs; cases hargs
          | cons x r => cases r with
            | nil => exact ⟨x, rfl⟩
            | cons y r => rw [hl] at hargs; simp at hargs
        rw [hx] at hargs
        have ha : ρ x = .chan a := by simpa using hargs
        have h3 := hρ x
        rw [ha] at h3
        have e1 := h3.one (symLook_mem h).1 h1
        have hm : c.args.map ρ' = #[.string s] := by
          apply Array.toList_inj.1
          simp [hx, e1]
        simp only [resolve, hb]
        refine RdOk.val (v := v) ⟨.int .i64 s.size, ?_, h2⟩ hr
        simp only [hm, Builtin.len_, ht, List.getElem?_toArray, List.getElem?_cons_zero, Sem.run_bind, T.run_und hd, Result.andThen_ok]
        rfl
      case h_1 e hd =>
      obtain ⟨ad, l, cc, h1, h2⟩ := Y _ _ _ _ h
      obtain ⟨x, hx⟩ : ∃ x, c.args.toList = [x] := by
        cases hl : c.args.toList with
        | nil => rw [hl] at hargs; cases hargs
        | cons x r => cases r with
          | nil => exact ⟨x, rfl⟩
          | cons y r => rw [hl] at hargs; simp at hargs
      rw [hx] at hargs
      have ha : ρ x = .chan a := by simpa using hargs
      have h3 := hρ x
      rw [ha] at h3
      have e1 := h3.one (symLook_mem h).1 h1
      have hm : c.args.map ρ' = #[.slice ad l cc] := by
        apply Array.toList_inj.1
        simp [hx, e1]
      simp only [resolve, hb]
      refine RdOk.val (v := v) ⟨.int .i64 l, ?_, h2⟩ hr
      simp only [hm, Builtin.len_, ht, List.getElem?_toArray, List.getElem?_cons_zero, Sem.run_bind, T.run_und hd, Result.andThen_ok]
      rfl
    all_goals
      rename_i x0 y0 hargs
      obtain ⟨x, y, hx⟩ : ∃ x y, c.args.toList = [x, y] := by
        cases hl : c.args.toList with
        | nil => rw [hl] at hargs; cases hargs
        | cons x r => cases r with
          | nil => rw [hl] at hargs; simp at hargs
          | cons y r => cases r with
            | nil => exact ⟨x, y, rfl⟩
            | cons z r => rw [hl] at hargs; simp at hargs
      rw [hx] at hargs
      simp only [List.map_cons, List.map_nil, List.cons.injEq, and_true] at hargs
      obtain ⟨rfl, rfl⟩ := hargs
      obtain ⟨o1, o2, _⟩ := symLook_mem h
      obtain ⟨k, a, b, h1, h2, h3⟩ := Y _ _ _ _ h
      have e1 := (hρ x).one o1 h1
      have e2 := (hρ y).one o2 h2
      have hm : c.args.map ρ' = #[.int k a, .int k b] := by
        apply Array.toList_inj.1
        simp [hx, e1, e2]
      simp only [resolve, hb]
      refine RdOk.val (v := v) ⟨_, ?_, h3⟩ hr
      rw [hm]
    case h_2 =>
      obtain ⟨v', a1, a2⟩ := minMax_ok (P := P) (w := w) (μ := noMuX) (isMax := false) (ts := c.argTypes) (ty := type) [.int k b] [.int k b] (.int k a) (.int k a) (.int k (if b < a then b else a)) rfl (.int _ _) (VL.cons (.int _ _) VL.nil)
      cases a2
      simpa [Builtin.min_] using a1
    case h_3 =>
      obtain ⟨v', a1, a2⟩ := minMax_ok (P := P) (w := w) (μ := noMuX) (isMax := true) (ts := c.argTypes) (ty := type) [.int k b] [.int k b] (.int k a) (.int k a) (.int k (if b > a then b else a)) rfl (.int _ _) (VL.cons (.int _ _) VL.nil)
      cases a2
      simpa [Builtin.max_] using a1

theorem aop_ok (T : TyOk P E) (X : ExtOk P E) (Y : SymOk E μ) (hr : HR B W0 μ H w) {o : Oper} {r : AR} (h : aop E ρ o H = some r) : AOk P B W0 μ w (execOp ρ' o) r := by
  unfold aop at h
  split at h
  · rename_i v hv
    cases h
    exact symA_ok hρ T Y hr hv
  · exact aop0_ok hρ T X Y hr h
end
end Go.Vsx
