/- States, regions in text order, calls. -/
import Derived.Test.YtfahjdpepgedpaaGreatDoorVOps10
import Derived.LoopN
import Derived.Orders
set_option linter.all false
namespace Go.Vsx
open Go Go.RowKit

structure SR (μ : Mu) (σ : St) (a : Act) : Prop where
  size : a.tmps.size = σ.n
  tmp : ∀ t, VR μ (σ.rd t) (a.tmps.getD t undef)
  defers : a.defers = []

theorem VR.undef {μ : Mu} : VR μ undefV undef := .tuple _ _ rfl (by intro i v v' hv; simp at hv)

theorem SR.mono {μ μ' : Mu} {σ : St} {a : Act} (h : SR μ σ a) (hm : μ.le μ') : SR μ' σ a := ⟨h.size, fun t => (h.tmp t).mono hm, h.defers⟩

theorem SR.heap {μ : Mu} {σ : St} {a : Act} (h : SR μ σ a) (H : Heap) : SR μ { σ with H := H } a := ⟨h.size, h.tmp, h.defers⟩

theorem SR.wr {μ : Mu} {σ σ' : St} {a : Act} {d : Option Nat} {v v' : Value} {H : Heap} (h : SR μ σ a) (hv : VR μ v v') (hw : σ.wr d v H = some σ') : SR μ σ' (a.put d v') ∧ σ'.H = H ∧ σ'.n = σ.n := by
  unfold St.wr at hw
  split at hw
  · cases hw; exact ⟨h.heap H, rfl, rfl⟩
  · rename_i t
    split at hw
    · rename_i ht
      cases hw
      have ht' : t < σ.n := by simpa using ht
      refine ⟨⟨by simp [Act.put, h.size], fun u => ?_, by simpa [Act.put] using h.defers⟩, rfl, rfl⟩
      have hsz := h.size
      show VR μ (match (σ.tm.set t (some v)).get u with | some v => v | none => undefV) ((a.tmps.setIfInBounds t v').getD u undef)
      rw [PT.get_set]
      by_cases e : u = t
      · subst e
        simp [Array.getElem?_setIfInBounds, hsz, ht']
        exact hv
      · rw [if_neg e]
        have := h.tmp u
        have h2 : (a.tmps.setIfInBounds t v').getD u undef = a.tmps.getD u undef := by simp [Array.getD_eq_getD_getElem?, Array.getElem?_setIfInBounds, Ne.symm e]
        rw [h2]
        exact this
    · cases hw

/-- What a constant may be. -/
abbrev plainV : Value → Bool := plainC

def okOperand (ng : Nat) : Operand → Bool
  | .tmp _ => true
  | .const v => plainV v
  | .global g => Nat.blt g ng
  | .func _ => true

/-- How many package variables there are; what is asked of the world that a run began in. -/
structure GS where
  ng : Nat
  I : Nat → World → Prop
  m0 : Mu

def GOk (G : GS) (B : Nat) (W0 : World) (μ : Mu) : Prop := (∀ g, g < G.ng → ∃ ex, μ.pl g = some ⟨g, 0, ex⟩) ∧ G.I B W0 ∧ G.m0.leV μ
theorem GOk.mono {G : GS} {B : Nat} {W0 : World} {μ μ' : Mu} (h : GOk G B W0 μ) (hm : μ.le μ') : GOk G B W0 μ' := ⟨fun g hg => let ⟨ex, e⟩ := h.1 g hg; ⟨ex, hm.1 _ _ e⟩, h.2.1, h.2.2.trans hm.v⟩

/-- What is known of the library's functions without a body, and of the atoms. -/
structure XOk (P : Program) (E : Env) (G : GS) : Prop where
  x : ExtOk P E
  y : SymOk E G.m0

theorem plain_ok {μ : Mu} {v : Value} (h : plainV v = true) : VR μ v v := by
  unfold plainV plainC at h
  split at h
  all_goals first | exact .int _ _ | exact .bool _ | exact .str _ | exact .nilF | exact .nilI | exact .ptrN | exact .mapN | exact .slcN _ _ | (cases h; done)

theorem ev_ok {G : GS} {B : Nat} {W0 : World} {μ : Mu} {σ : St} {a : Act} (h : SR μ σ a) (g : GOk G B W0 μ) {x : Operand} (hx : okOperand G.ng x = true) : VR μ (σ.ev x) (a.eval x) := by
  cases x with
  | tmp t => exact h.tmp t
  | const v => exact plain_ok hx
  | global k =>
    obtain ⟨ex, e⟩ := g.1 k (by simpa [okOperand] using hx)
    exact .ptr k 0 ⟨k, 0, ex⟩ e
  | func f => exact .func _ _ _ _ _ rfl rfl (by intro i v v' hv; simp at hv) (by intro i v v' hv; simp at hv)

theorem wanted_ok {μ : Mu} {σ : St} {a : Act} (h : SR μ σ a) {ops : Array Oper} {o : Oper} {b : Bool} (hw : wantedA ops.toList σ o = some b) : Region.wanted o (yielded ops a.tmps) = b := by
  unfold wantedA at hw
  unfold Region.wanted
  split at hw
  · rename_i hg; cases hw; rw [hg]
  · rename_i j want hg
    rw [hg]
    simp only [yielded]
    rw [Array.getElem?_toList] at hw
    split at hw
    · rename_i d hd
      rw [hd]
      have ht := h.tmp d
      split at hw
      · rename_i b' hb
        cases hw
        rw [hb] at ht
        generalize hx : a.tmps.getD d undef = x at ht
        cases ht
        have : a.tmps[d]? = some (.bool b') := by
          rw [Array.getD_eq_getD_getElem?] at hx
          cases hq : a.tmps[d]? with
          | none => rw [hq] at hx; simp [undef] at hx
          | some y => rw [hq] at hx; simp at hx; rw [hx]
        simp only [Option.bind_some, this]
        cases b' <;> cases want <;> rfl
      · rename_i vs hb
        cases hw
        rw [hb] at ht
        generalize hx : a.tmps.getD d undef = x at ht
        cases ht
        rename_i vs'
        rw [Array.getD_eq_getD_getElem?] at hx
        simp only [Option.bind_some]
        cases hq : a.tmps[d]? with
        | none => rfl
        | some y => rw [hq] at hx; simp at hx; rw [hx]; rfl
      · cases hw
    · rename_i hd
      cases hw
      rw [hd]
      rfl

theorem aop0_congr {E : Env} {ρ ρ2 : Operand → Value} {H : Heap} (o : Oper) (h : ∀ x ∈ o.op.operands, ρ x = ρ2 x) : aop0 E ρ o H = aop0 E ρ2 o H := by
  obtain ⟨dst, op, type, pos, after, guard⟩ := o
  have lists : ∀ l : List Operand, (∀ x ∈ l, ρ x = ρ2 x) → l.map ρ = l.map ρ2 := fun l hl => List.map_congr_left hl
  cases op <;> simp only [Op.operands] at h <;> simp only [aop0]
  case build t ps =>
    have : (ps.toList.map fun x => (x.1, ρ x.2)) = ps.toList.map fun x => (x.1, ρ2 x.2) := List.map_congr_left fun x hx => by
      rw [h x.2 (by simp; exact ⟨x.1, by simpa using hx⟩)]
    rw [this]
  case buildSlice t n ps =>
    have : (ps.toList.map fun x => (x.1, ρ x.2)) = ps.toList.map fun x => (x.1, ρ2 x.2) := List.map_congr_left fun x hx => by
      rw [h x.2 (by simp; exact ⟨x.1, by simpa using hx⟩)]
    rw [this]
  case makeFunc fn first captured =>
    rw [Array.map_congr_left (xs := first) fun x hx => h x (by simp [hx]), Array.map_congr_left (xs := captured) fun x hx => h x (by simp [hx])]
  case call c =>
    have hargs : c.args.toList.map ρ = c.args.toList.map ρ2 := lists _ fun x hx => h x (by simp only [Call.operands, Array.mem_append]; first | exact .inl (by simpa using hx) | exact .inr (by simpa using hx))
    rw [hargs]
    split
    · rfl
    · rename_i f hf
      have : ρ f = ρ2 f := h f (by simp [Call.operands, hf])
      rw [this]
      rfl
    · rfl
  case makeMap t r => cases r <;> simp_all
  case slice t x lo hi mx => cases lo <;> cases hi <;> cases mx <;> simp_all
  all_goals (first | rfl | (simp_all; done))

theorem symA_congr {E : Env} {ρ ρ2 : Operand → Value} (o : Oper) (h : ∀ x ∈ o.op.operands, ρ x = ρ2 x) : symA E ρ o = symA E ρ2 o := by
  obtain ⟨dst, op, type, pos, after, guard⟩ := o
  have lists : ∀ l : List Operand, (∀ x ∈ l, ρ x = ρ2 x) → l.map ρ = l.map ρ2 := fun l hl => List.map_congr_left hl
  cases op <;> simp only [Op.operands] at h <;> simp only [symA]
  case call c =>
    have hargs : c.args.toList.map ρ = c.args.toList.map ρ2 := lists _ fun x hx => h x (by simp only [Call.operands, Array.mem_append]; first | exact .inl (by simpa using hx) | exact .inr (by simpa using hx))
    rw [hargs]
  case slice t x lo hi mx => cases lo <;> cases hi <;> cases mx <;> simp_all
  all_goals simp_all

theorem aop_congr {E : Env} {ρ ρ2 : Operand → Value} {H : Heap} (o : Oper) (h : ∀ x ∈ o.op.operands, ρ x = ρ2 x) : aop E ρ o H = aop E ρ2 o H := by
  unfold aop
  rw [symA_congr o h, aop0_congr o h]

open Classical in
theorem aop_on {P : Program} {E : Env} {B : Nat} {W0 w : World} {μ : Mu} {H : Heap} (T : TyOk P E) (X : ExtOk P E) (Y : SymOk E μ) {ρ ρ' : Operand → Value} {o : Oper} {r : AR}
    (hρ : ∀ x ∈ o.op.operands, VR μ (ρ x) (ρ' x)) (hr : HR B W0 μ H w) (h : aop E ρ o H = some r) : AOk P B W0 μ w (execOp ρ' o) r := by
  have e1 : aop E ρ o H = aop E (fun x => if x ∈ o.op.operands then ρ x else undefV) o H := aop_congr o fun x hx => by simp [hx]
  have hs : ∀ cs b, o.op ≠ .select cs b := by
    intro cs b he
    obtain ⟨dst, op, type, pos, after, guard⟩ := o
    simp only at he
    subst he
    simp [aop, symA, aop0] at h
  have e2 : execOp ρ' o = execOp (fun x => if x ∈ o.op.operands then ρ' x else undef) o := execOp_congr o hs fun x hx => by simp [hx]
  rw [e1] at h
  rw [e2]
  refine aop_ok (fun x => ?_) T X Y hr h
  by_cases hx : x ∈ o.op.operands
  · simp only [hx, if_true]; exact hρ x hx
  · simp only [hx, if_false]; exact VR.undef

theorem callFunc_enter {P : Program} {f : FuncId} {fn : Func} (hf : P.funcs[f]? = some fn) (hb : fn.body.isNone = false) (hn : (fn.name == "runtime.NumGoroutine") = false) (args : Array Value) (w : World) :
    (callFunc f args).run P w = .ok (.enter f args) w := by
  have hn' : fn.name ≠ "runtime.NumGoroutine" := by simpa using hn
  have hb' : fn.body ≠ none := by intro e; rw [e] at hb; simp at hb
  simp [callFunc, hf, hb', hn']

def TCall (P : Program) (G : GS) (f : FuncId) (args : List Value) (H : Heap) (v : Value) (H' : Heap) : Prop :=
  ∀ (B : Nat) (W0 : World) (μ : Mu) (w : World) (args' : Array Value), HR B W0 μ H w → GOk G B W0 μ → VL μ args args'.toList →
    Calls P f args' w fun e w' => ∃ μ' v', e = .returned v' ∧ μ.le μ' ∧ HR B W0 μ' H' w' ∧ VR μ' v v'

def CallOk (P : Program) (G : GS) (callF : FuncId → List Value → Heap → Option (Value × Heap)) : Prop :=
  ∀ f args H v H', callF f args H = some (v, H') →
    (∃ fn, P.funcs[f]? = some fn ∧ fn.body.isNone = false ∧ (fn.name == "runtime.NumGoroutine") = false) ∧ TCall P G f args H v H'

theorem stepA_ok {P : Program} {E : Env} {G : GS} {callF : FuncId → List Value → Heap → Option (Value × Heap)} (T : TyOk P E) (X : XOk P E G) (C : CallOk P G callF)
    {B : Nat} {W0 w : World} {μ : Mu} {σ σ' : St} {a : Act} {ops : Array Oper} {i : Nat} {o : Oper} {Q : Exit → Act → World → Prop} {K : Act → World → Prop}
    (ho : ops[i]? = some o) (hok : ∀ x ∈ o.op.operands, okOperand G.ng x = true) (h : stepA E callF ops.toList o σ = some σ') (sr : SR μ σ a) (hr : HR B W0 μ σ.H w) (g : GOk G B W0 μ)
    (hK : ∀ μ' a' w', μ.le μ' → SR μ' σ' a' → HR B W0 μ' σ'.H w' → K a' w') : wpOp P ops Q i K a w := by
  unfold stepA at h
  unfold wpOp
  simp only [ho]
  split at h
  · cases h
  · rename_i hw
    rw [wanted_ok sr hw]
    simp only [Bool.false_eq_true, if_false]
    obtain ⟨s1, s2, _⟩ := sr.wr VR.undef h
    exact hK μ _ w μ.le_refl s1 (s2 ▸ hr)
  · rename_i hw
    rw [wanted_ok sr hw]
    simp only [if_true]
    left
    unfold Oper.wp
    split at h
    · rename_i v H2 ha
      obtain ⟨n, w', μ', v', h1, h2, h3, h4, h5⟩ := aop_on (P := P) (w := w) (B := B) (W0 := W0) (μ := μ) (ρ' := a.eval) T X.x (X.y.mono g.2.2) (fun x hx => ev_ok sr g (hok x hx)) hr ha
      obtain ⟨s1, s2, _⟩ := (sr.mono h2).wr h5 h
      rw [h1]
      cases n <;> simp only [got, reduceCtorEq, Option.some.injEq] at h4
      · subst h4; exact hK μ' _ w' h2 s1 (s2 ▸ h3)
      · subst h4; exact hK μ' _ w' h2 s1 (s2 ▸ h3)
    · rename_i f args ha
      obtain ⟨args', h1, h2⟩ := aop_on (P := P) (w := w) (B := B) (W0 := W0) (μ := μ) (ρ' := a.eval) T X.x (X.y.mono g.2.2) (fun x hx => ev_ok sr g (hok x hx)) hr ha
      split at h
      · rename_i v H2 hc
        obtain ⟨⟨fn, f1, f2, f3⟩, tc⟩ := C _ _ _ _ _ hc
        rw [h1, callFunc_enter f1 f2 f3]
        simp only [Oper.upon_enter]
        refine (tc B W0 μ w args' hr g h2).mono ?_
        rintro e w' ⟨μ', v', rfl, k1, k2, k3⟩
        obtain ⟨s1, s2, _⟩ := (sr.mono k1).wr k3 h
        exact hK μ' _ w' k1 s1 (s2 ▸ k2)
      · cases h
    · cases h
end Go.Vsx
