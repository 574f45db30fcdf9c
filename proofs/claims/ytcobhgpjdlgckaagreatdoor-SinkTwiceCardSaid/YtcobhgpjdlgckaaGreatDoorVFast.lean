/- The executor once more, by raw recursors: the same function, quicker for the kernel. -/
import Derived.Test.YtcobhgpjdlgckaaGreatDoorVEnv
set_option linter.all false
namespace Go.Vsx
open Go Go.RowKit
noncomputable section
set_option linter.unusedVariables false

def k1 (r : Option Value) (H : Heap) : Option AR := @Option.rec Value (fun _ => Option AR) none (fun v => some (.val v H)) r
def k2 (r : Option (Value × Heap)) : Option AR := @Option.rec (Value × Heap) (fun _ => Option AR) none (fun p => some (.val p.1 p.2)) r
def k3 (r : Option Heap) : Option AR := @Option.rec Heap (fun _ => Option AR) none (fun H => some (.val undefV H)) r
def fPick (c a b : Value) (H : Heap) : Option AR :=
  match c with
  | .bool t => some (.val (@Bool.rec (fun _ => Value) b a t) H)
  | _ => none
def fAlloc (E : Env) (e : TypeId) (H : Heap) : Option AR :=
  match tyZero E e with
  | none => none
  | some z => k2 (newRowA E H e z.cells.toList)
def fNil (x : Value) (H : Heap) : Option AR :=
  match x with
  | .pointer (some a) => some (.val (.pointer (some a)) H)
  | _ => none
def fMkI (E : Env) (t : TypeId) (x : Value) (H : Heap) : Option AR :=
  match tyD E t with
  | some (.interface _) => none
  | some _ => some (.val (.iface t x) H)
  | none => none
def fMkM (r : Option Operand) (H : Heap) : Option AR :=
  match r with
  | none => some (.val (.map (some H.next)) (H.add (.map [] 0)))
  | some _ => none
def fExtr (x : Value) (i : Nat) (H : Heap) : Option AR :=
  match x with
  | .tuple vs => k1 (vs[i]?) H
  | _ => none
def symOr (r : Option Value) (H : Heap) (a : Option AR) : Option AR :=
  @Option.rec Value (fun _ => Option AR) a (fun v => some (.val v H)) r
def fCallOp (E : Env) (ρ : Operand → Value) (c : Call) (ty : TypeId) (H : Heap) : Option AR :=
  match c.callee with
  | .builtin b => symOr (symLen E b c.argTypes (c.args.toList.map ρ)) H (builtinA E H b c.argTypes ty (c.args.toList.map ρ))
  | .value f => callV E ρ H (ρ f) (c.args.toList.map ρ)
  | .invoke _ _ => none

def fAop (E : Env) (ρ : Operand → Value) (o : Op) (ty : TypeId) (H : Heap) : Option AR :=
  @Op.rec (fun _ => Option AR)
    (fun x => some (.val (ρ x) H))
    (fun x => some (.val (ρ x) H))
    (fun c a b => fPick (ρ c) (ρ a) (ρ b) H)
    (fun e => fAlloc E e H)
    (fun e x => @Bool.rec (fun _ => Option AR) none (k2 (newRowA E H e (ρ x).cells.toList)) (known (ρ x)))
    (fun t parts => k1 (buildA E t (parts.toList.map fun x => (x.1, ρ x.2))) H)
    (fun t len parts => k2 (buildSliceA E H t len (parts.toList.map fun x => (x.1, ρ x.2))))
    (fun t m k x => k3 (mapUpdateA E H t (ρ m) (ρ k) (ρ x)))
    (fun t a => k1 (loadA E H t (ρ a)) H)
    (fun t a x => k3 (storeA E H t (ρ a) (ρ x)))
    (fun g => none)
    (fun g => none)
    (fun x => fNil (ρ x) H)
    (fun op t x y yt => symOr (symLook E (.bin op) (ρ x) (ρ y)) H (k1 (binA E H op t (isConstO x || isConstO y) (ρ x) (ρ y)) H))
    (fun op t x => k1 (unA op (ρ x)) H)
    (fun s d x => symOr (symConv E s d (ρ x)) H (k2 (convA E H s d (ρ x))))
    (fun d x => none)
    (fun t x => fMkI E t (ρ x) H)
    (fun fn first captured => some (.val (.func fn (first.map ρ) (captured.map ρ)) H))
    (fun t r => fMkM r H)
    (fun t x => none)
    (fun t l c => k2 (makeSliceA E H t (ρ l) (ρ c)))
    (fun t x lo hi mx => symOr (symSl E t (ρ x) (lo.map ρ) (hi.map ρ) (mx.map ρ)) H (k1 (sliceAbs E t (ρ x) (lo.map ρ) (hi.map ρ) (mx.map ρ)) H))
    (fun t x f => k1 (fieldAddrA E t (ρ x) f) H)
    (fun t x f => k1 (fieldA E t (ρ x) f) H)
    (fun t x i => symOr (symIdx E t (ρ x) (ρ i)) H (k1 (indexAddrA E t (ρ x) (fixI E (ρ i))) H))
    (fun t x i => k1 (indexA E t (ρ x) (fixI E (ρ i))) H)
    (fun t x k ok => k1 (lookupA E H t (ρ x) (ρ k) ok) H)
    (fun t m k x => k3 (mapUpdateA E H t (ρ m) (ρ k) (ρ x)))
    (fun t m k => none)
    (fun t m s x => none)
    (fun t x => k2 (rangeA E H t (ρ x)))
    (fun it s => k2 (nextA H (ρ it) s))
    (fun it => k1 (entryA H (ρ it)) H)
    (fun x t a ok => k1 (typeAssertA E (ρ x) a ok) H)
    (fun t i => fExtr (ρ t) i H)
    (fun c => fCallOp E ρ c ty H)
    (fun c => none)
    (fun c => none)
    (fun x => none)
    (fun a x => none)
    (fun t x ok => none)
    (fun cs b => none) o

theorem k1_eq (r : Option Value) (H : Heap) : k1 r H = r.map fun v => .val v H := by cases r <;> rfl
theorem k2_eq (r : Option (Value × Heap)) : k2 r = r.map fun p => .val p.1 p.2 := by cases r <;> rfl
theorem k3_eq (r : Option Heap) : k3 r = r.map fun H => .val undefV H := by cases r <;> rfl

theorem symOr_eq (r : Option Value) (H : Heap) (a : Option AR) : symOr r H a = match r with
    | some v => some (.val v H)
    | none => a := by cases r <;> rfl
theorem fAop_eq (E : Env) (ρ : Operand → Value) (o : Oper) (H : Heap) : fAop E ρ o.op o.type H = aop E ρ o H := by
  obtain ⟨dst, op, ty, ps, af, gd⟩ := o
  cases op <;> simp only [aop, symA, aop0, fAop] <;> (try rfl)
  all_goals first
    | (rw [k1_eq]; done)
    | (rw [k2_eq]; rfl)
    | (rw [k3_eq]; done)
    | skip
  case pick c a b => cases ρ c <;> first | rfl | (rename_i t; cases t <;> rfl)
  case alloc e =>
    unfold fAlloc
    cases tyZero E e with
    | none => rfl
    | some z =>
      show k2 (newRowA E H e z.cells.toList) = _
      rw [k2_eq]; simp only [Option.bind_eq_bind, Option.bind_some]; cases newRowA E H e z.cells.toList <;> rfl
  case box e x => cases known (ρ x) with
    | false => rfl
    | true => show k2 _ = _; rw [k2_eq]; cases newRowA E H e (ρ x).cells.toList <;> rfl
  case makeMap t r => cases r <;> rfl
  case extract t i => cases ρ t <;> first | rfl | (simp only [fExtr, k1_eq])
  case binOp op t x y yt => rw [symOr_eq, k1_eq]; rfl
  case convert s d x => rw [symOr_eq, k2_eq]; rfl
  case indexAddr t x i => rw [symOr_eq, k1_eq]; rfl
  case slice t x lo hi mx => rw [symOr_eq, k1_eq]; rfl
  case call c =>
    unfold fCallOp
    cases c.callee with
    | builtin b => simp only [symOr_eq]; rfl
    | value f => rfl
    | invoke a b => rfl
  all_goals exact k2_eq _

def fEv (tm : PT Value) (x : Operand) : Value :=
  @Operand.rec (fun _ => Value) (fun t => @Option.rec Value (fun _ => Value) undefV (fun v => v) (tm.get t)) (fun v => v) (fun g => .pointer (some ⟨g, 0, none⟩)) (fun f => .func (.func f) #[] #[]) x
theorem fEv_eq (σ : St) : fEv σ.tm = σ.ev := by
  funext x
  cases x with
  | tmp t =>
    show @Option.rec Value (fun _ => Value) undefV (fun v => v) (σ.tm.get t) = σ.rd t
    unfold St.rd
    cases σ.tm.get t <;> rfl
  | _ => rfl

def fWr (n : Nat) (tm : PT Value) (d : Option Nat) (v : Value) (H : Heap) : Option St :=
  @Option.rec Nat (fun _ => Option St) (some ⟨n, tm, H⟩) (fun t => @Bool.rec (fun _ => Option St) none (some ⟨n, tm.set t (some v), H⟩) (Nat.ble (Nat.succ t) n)) d
theorem fWr_eq (σ : St) (d : Option Nat) (v : Value) (H : Heap) : fWr σ.n σ.tm d v H = σ.wr d v H := by
  cases d with
  | none => rfl
  | some t =>
    show @Bool.rec (fun _ => Option St) none (some ⟨σ.n, σ.tm.set t (some v), H⟩) (Nat.ble (t + 1) σ.n) = match Nat.ble (t + 1) σ.n with
      | true => some { σ with tm := σ.tm.set t (some v), H := H }
      | false => none
    cases Nat.ble (t + 1) σ.n <;> rfl

section
variable (E : Env) (callF : FuncId → List Value → Heap → Option (Value × Heap))

def fRun (dst : Option Nat) (op : Op) (ty : TypeId) (n : Nat) (tm : PT Value) (H : Heap) : Option St :=
  @Option.rec AR (fun _ => Option St) none (fun r => @AR.rec (fun _ => Option St) (fun v H' => fWr n tm dst v H')
    (fun f args => @Option.rec (Value × Heap) (fun _ => Option St) none (fun p => fWr n tm dst p.1 p.2) (callF f args H)) r) (fAop E (fEv tm) op ty H)

/-- What the guard's operation gave. -/
def fGuard (tm : PT Value) (want : Bool) (d : Option Nat) : Option Bool :=
  match d with
  | none => some false
  | some d => match (@Option.rec Value (fun _ => Value) undefV (fun v => v) (tm.get d)) with
    | .bool b => some (b == want)
    | .tuple _ => some false
    | _ => none

/-- The slot of an earlier operation: counted from here. -/
def fSlot (ops : List Oper) (prev : List (Option Nat)) (i j : Nat) : Option Nat :=
  @Bool.rec (fun _ => Option Nat) ((ops[j]?).bind (·.dst)) ((prev[i - 1 - j]?).getD none) (Nat.ble (Nat.succ j) i)

def fStep (ops : List Oper) (prev : List (Option Nat)) (i : Nat) (o : Oper) (n : Nat) (tm : PT Value) (H : Heap) : Option St :=
  @Oper.rec (fun _ => Option St) (fun dst op ty _ _ gd =>
    @Option.rec (Nat × Bool) (fun _ => Option St) (fRun E callF dst op ty n tm H)
      (fun g => @Option.rec Bool (fun _ => Option St) none (fun b => @Bool.rec (fun _ => Option St) (fWr n tm dst undefV H) (fRun E callF dst op ty n tm H) b)
        (fGuard tm g.2 (fSlot ops prev i g.1))) gd) o

def fReg (ops : List Oper) (l : List Oper) : Nat → List (Option Nat) → Nat → PT Value → Heap → Option St :=
  @List.rec Oper (fun _ => Nat → List (Option Nat) → Nat → PT Value → Heap → Option St) (fun _ _ n tm H => some ⟨n, tm, H⟩)
    (fun o _ go i prev n tm H => @Option.rec St (fun _ => Option St) none (fun σ => @St.rec (fun _ => Option St) (fun n tm H => go (Nat.succ i) (o.dst :: prev) n tm H) σ) (fStep E callF ops prev i o n tm H)) l

variable {E callF}
theorem fRun_eq (o : Oper) (σ : St) : fRun E callF o.dst o.op o.type σ.n σ.tm σ.H = match aop E σ.ev o σ.H with
    | some (.val v H') => σ.wr o.dst v H'
    | some (.call f args) =>
      match callF f args σ.H with
      | some (v, H') => σ.wr o.dst v H'
      | none => none
    | none => none := by
  unfold fRun
  rw [fEv_eq, fAop_eq]
  cases aop E σ.ev o σ.H with
  | none => rfl
  | some r =>
    cases r with
    | val v H' => exact fWr_eq σ _ _ _
    | call f args =>
      show @Option.rec (Value × Heap) (fun _ => Option St) none (fun p => fWr σ.n σ.tm o.dst p.1 p.2) (callF f args σ.H) = _
      simp only []
      cases callF f args σ.H with
      | none => rfl
      | some p => exact fWr_eq σ _ _ _

theorem fGuard_eq (σ : St) (want : Bool) (d : Option Nat) : fGuard σ.tm want d = match d with
    | some d => match σ.rd d with
      | .bool b => some (b == want)
      | .tuple _ => some false
      | _ => none
    | none => some false := by
  cases d with
  | none => rfl
  | some d =>
    have : @Option.rec Value (fun _ => Value) undefV (fun v => v) (σ.tm.get d) = σ.rd d := by
      unfold St.rd
      cases σ.tm.get d <;> rfl
    simp only [fGuard, this]

theorem fStep_eq {ops : List Oper} {prev : List (Option Nat)} {i : Nat} {o : Oper} {σ : St} (hs : ∀ j, fSlot ops prev i j = (ops[j]?).bind (·.dst)) :
    fStep E callF ops prev i o σ.n σ.tm σ.H = stepA E callF ops o σ := by
  have hr := fRun_eq (E := E) (callF := callF) o σ
  obtain ⟨dst, op, ty, ps, af, gd⟩ := o
  unfold stepA
  cases gd with
  | none => exact hr
  | some g =>
    obtain ⟨j, want⟩ := g
    show @Option.rec Bool (fun _ => Option St) none (fun b => @Bool.rec (fun _ => Option St) (fWr σ.n σ.tm dst undefV σ.H) (fRun E callF dst op ty σ.n σ.tm σ.H) b) (fGuard σ.tm want (fSlot ops prev i j)) = _
    have hw : fGuard σ.tm want ((ops[j]?).bind (·.dst)) = wantedA ops σ ⟨dst, op, ty, ps, af, some (j, want)⟩ := fGuard_eq σ want _
    rw [hs, hw]
    cases wantedA ops σ ⟨dst, op, ty, ps, af, some (j, want)⟩ with
    | none => rfl
    | some b =>
      cases b with
      | false => exact fWr_eq σ _ _ _
      | true => exact hr

theorem fSlot_eq {ops : List Oper} {i : Nat} (hi : i ≤ ops.length) (j : Nat) : fSlot ops ((ops.take i).map (·.dst)).reverse i j = (ops[j]?).bind (·.dst) := by
  unfold fSlot
  cases h : Nat.ble (Nat.succ j) i with
  | false => rfl
  | true =>
    have hj : j < i := Nat.le_of_ble_eq_true h
    show ((((ops.take i).map (·.dst)).reverse)[i - 1 - j]?).getD none = _
    have hl : ((ops.take i).map (·.dst)).length = i := by simp; omega
    rw [List.getElem?_reverse (by omega), hl]
    have : i - 1 - (i - 1 - j) = j := by omega
    rw [this, List.getElem?_map, List.getElem?_take, if_pos hj]
    have : j < ops.length := by omega
    simp [this]

theorem fReg_eq {ops : List Oper} : ∀ (l : List Oper) (i : Nat) (σ : St), ops.drop i = l → i ≤ ops.length → fReg E callF ops l i ((ops.take i).map (·.dst)).reverse σ.n σ.tm σ.H = regA E callF ops l σ
  | [], i, σ, _, _ => rfl
  | o :: r, i, σ, hd, hi => by
    have hlt : i < ops.length := by
      rcases Nat.lt_or_ge i ops.length with h | h
      · exact h
      · rw [List.drop_eq_nil_of_le h] at hd; cases hd
    have ho : ops[i] = o := by
      rw [List.drop_eq_getElem_cons hlt] at hd; injection hd
    have hr : ops.drop (i + 1) = r := by
      rw [List.drop_eq_getElem_cons hlt] at hd; injection hd
    show @Option.rec St (fun _ => Option St) none (fun σ => @St.rec (fun _ => Option St) (fun n tm H => fReg E callF ops r (i + 1) (o.dst :: ((ops.take i).map (·.dst)).reverse) n tm H) σ)
      (fStep E callF ops ((ops.take i).map (·.dst)).reverse i o σ.n σ.tm σ.H) = _
    rw [fStep_eq (fSlot_eq hi)]
    simp only [regA]
    cases stepA E callF ops o σ with
    | none => rfl
    | some σ' =>
      show fReg E callF ops r (i + 1) (o.dst :: ((ops.take i).map (·.dst)).reverse) σ'.n σ'.tm σ'.H = regA E callF ops r σ'
      rw [← fReg_eq r (i + 1) σ' hr hlt]
      congr 1
      rw [List.take_succ_eq_append_getElem hlt, ho]
      simp

/-- The whole region. -/
theorem fReg_all (ops : List Oper) (σ : St) : fReg E callF ops ops 0 [] σ.n σ.tm σ.H = regA E callF ops ops σ :=
  fReg_eq ops 0 σ rfl (Nat.zero_le _)
end

section
variable (E : Env) (callF : FuncId → List Value → Heap → Option (Value × Heap))
def fDraw (ops : List Oper) (n : Nat) (tm : PT Value) (H : Heap) : Option St :=
  match effs E ops 0 with
  | [] => fReg E callF ops ops 0 [] n tm H
  | es => drawB E callF ops (ancs ops []) (freesOf ops (ancs ops []) es) (planOf ops (ancs ops []) (freesOf ops (ancs ops []) es))
      (epsOf E (freesOf ops (ancs ops []) es) (planOf ops (ancs ops []) (freesOf ops (ancs ops []) es)) 0) ⟨n, tm, H⟩
theorem fDraw_eq (ops : List Oper) (σ : St) : fDraw E callF ops σ.n σ.tm σ.H = drawA E callF ops σ := by
  unfold fDraw drawA
  rw [fReg_all]
  cases effs E ops 0 <;> rfl
end

def fExec (E : Env) : Nat → Code → Nat → PT Value → Heap → Option (AEx × St)
  | 0 => fun _ _ _ _ => none
  | k + 1 => fun c n tm H => match c with
    | .skip => some (.normal, ⟨n, tm, H⟩)
    | .label _ => some (.normal, ⟨n, tm, H⟩)
    | .region _ ops draw => match draw with
      | false => @Option.rec St (fun _ => Option (AEx × St)) none (fun σ => some (.normal, σ)) (fReg E (callE E fun c σ => fExec E k c σ.n σ.tm σ.H) ops.toList ops.toList 0 [] n tm H)
      | true => @Option.rec St (fun _ => Option (AEx × St)) none (fun σ => some (.normal, σ)) (fDraw E (callE E fun c σ => fExec E k c σ.n σ.tm σ.H) ops.toList n tm H)
    | .seq a b => match fExec E k a n tm H with
      | some (.normal, ⟨n, tm, H⟩) => fExec E k b n tm H
      | r => r
    | .cond c a b => match fEv tm c with
      | .bool true => fExec E k a n tm H
      | .bool false => fExec E k b n tm H
      | _ => none
    | .block id b => match fExec E k b n tm H with
      | some (.exit j, σ') => match Nat.beq j id with
        | true => some (.normal, σ')
        | false => some (.exit j, σ')
      | r => r
    | .loop b => match fExec E k b n tm H with
      | some (.normal, ⟨n, tm, H⟩) => fExec E k (.loop b) n tm H
      | r => r
    | .exit id => some (.exit id, ⟨n, tm, H⟩)
    | .ret => some (.ret, ⟨n, tm, H⟩)
    | _ => none

theorem fExec_eq (E : Env) : ∀ (k : Nat) (c : Code) (σ : St), fExec E k c σ.n σ.tm σ.H = execC E k c σ
  | 0, _, _ => rfl
  | k + 1, c, σ => by
    have ih : (fun c (σ : St) => fExec E k c σ.n σ.tm σ.H) = execC E k := by funext c σ; exact fExec_eq E k c σ
    have ih' := fExec_eq E k
    cases c with
    | skip => rfl
    | label l => rfl
    | region id ops draw =>
      cases draw with
      | false =>
        show @Option.rec St (fun _ => Option (AEx × St)) none (fun σ => some (.normal, σ)) (fReg E (callE E fun c σ => fExec E k c σ.n σ.tm σ.H) ops.toList ops.toList 0 [] σ.n σ.tm σ.H) = _
        rw [ih, fReg_all]
        simp only [execC]
        cases regA E (callE E (execC E k)) ops.toList ops.toList σ <;> rfl
      | true =>
        show @Option.rec St (fun _ => Option (AEx × St)) none (fun σ => some (.normal, σ)) (fDraw E (callE E fun c σ => fExec E k c σ.n σ.tm σ.H) ops.toList σ.n σ.tm σ.H) = _
        rw [ih, fDraw_eq]
        simp only [execC]
        cases drawA E (callE E (execC E k)) ops.toList σ <;> rfl
    | seq a b =>
      simp only [fExec, execC, ih']
      cases execC E k a σ with
      | none => rfl
      | some r =>
        obtain ⟨x, σ'⟩ := r
        cases x with
        | normal => exact ih' b σ'
        | _ => rfl
    | cond c a b =>
      simp only [fExec, execC, fEv_eq, ih']
      rfl
    | block id b => simp only [fExec, execC, ih']; rfl
    | loop b =>
      simp only [fExec, execC, ih']
      cases execC E k b σ with
      | none => rfl
      | some r =>
        obtain ⟨x, σ'⟩ := r
        cases x with
        | normal => exact ih' (.loop b) σ'
        | _ => rfl
    | exit id => rfl
    | ret => rfl
    | _ => rfl

/-- A call. -/
def fCall (E : Env) (k : Nat) : FuncId → List Value → Heap → Option (Value × Heap) := callE E fun c σ => fExec E k c σ.n σ.tm σ.H
theorem fCall_eq (E : Env) (k : Nat) : fCall E k = callE E (execC E k) := by
  have ih : (fun c (σ : St) => fExec E k c σ.n σ.tm σ.H) = execC E k := by funext c σ; exact fExec_eq E k c σ
  unfold fCall
  rw [ih]
end
end Go.Vsx
