/- The executor by raw recursors with closed minors: definitions. -/
import Derived.Test.YtfahjdpepgedpaaGreatDoorVExec
set_option linter.all false
namespace Go.Vsx
open Go
noncomputable section
set_option linter.unusedVariables false

abbrev VRes := Option AR
def k1 (r : Option Value) (H : Heap) : Option AR := @Option.rec Value (fun _ => Option AR) none (fun v => some (.val v H)) r
def k2 (r : Option (Value × Heap)) : Option AR := @Option.rec (Value × Heap) (fun _ => Option AR) none (fun p => some (.val p.1 p.2)) r
def k3 (r : Option Heap) : Option AR := @Option.rec Heap (fun _ => Option AR) none (fun H => some (.val undefV H)) r
def fPick (c a b : Value) (H : Heap) : Option AR :=
  match c with
  | .bool t => some (.val (@Bool.rec (fun _ => Value) b a t) H)
  | _ => none
def fAlloc (E : Env) (e : TypeId) (H : Heap) : Option AR :=
  match tyZero E e with
  | none => none
  | some z => k2 (newRowA E H e z.cells.toList)
def fNil (x : Value) (H : Heap) : Option AR :=
  match x with
  | .pointer (some a) => some (.val (.pointer (some a)) H)
  | _ => none
def fMkI (E : Env) (t : TypeId) (x : Value) (H : Heap) : Option AR :=
  match tyD E t with
  | some (.interface _) => none
  | some _ => some (.val (.iface t x) H)
  | none => none
def fMkM (r : Option Operand) (H : Heap) : Option AR :=
  match r with
  | none => some (.val (.map (some H.next)) (H.add (.map [] 0)))
  | some _ => none
def fExtr (x : Value) (i : Nat) (H : Heap) : Option AR :=
  match x with
  | .tuple vs => k1 (vs[i]?) H
  | _ => none
def symOr (r : Option Value) (H : Heap) (a : Option AR) : Option AR :=
  @Option.rec Value (fun _ => Option AR) a (fun v => some (.val v H)) r
def fCallOp (E : Env) (ρ : Operand → Value) (c : Call) (ty : TypeId) (H : Heap) : Option AR :=
  match c.callee with
  | .builtin b => symOr (symLen E b c.argTypes (c.args.toList.map ρ)) H (builtinA E H b c.argTypes ty (c.args.toList.map ρ))
  | .value f => callV E ρ H (ρ f) (c.args.toList.map ρ)
  | .invoke _ _ => none

/-! whole numbers -/
def topK (k : IntKind) : Nat := @IntKind.rec (fun _ => Nat) 127 32767 2147483647 9223372036854775807 255 65535 4294967295 18446744073709551615 k
def lowK (k : IntKind) : Nat := @IntKind.rec (fun _ => Nat) 128 32768 2147483648 9223372036854775808 0 0 0 0 k
def wrG (k : IntKind) (n : Int) : Int :=
  @Int.rec (fun _ => IntKind → Int) (fun m k => @Bool.rec (fun _ => Int) (k.wrap (.ofNat m)) (.ofNat m) (Nat.ble m (topK k)))
    (fun m k => @Bool.rec (fun _ => Int) (k.wrap (.negSucc m)) (.negSucc m) (Nat.ble (Nat.succ m) (lowK k))) n k
def subNN (m n : Nat) : Int := @Nat.rec (fun _ => Int) (.ofNat (Nat.sub m n)) (fun j _ => .negSucc j) (Nat.sub n m)
def addG (a b : Int) : Int :=
  @Int.rec (fun _ => Int → Int) (fun m b => @Int.rec (fun _ => Nat → Int) (fun n m => .ofNat (Nat.add m n)) (fun n m => subNN m (Nat.succ n)) b m)
    (fun m b => @Int.rec (fun _ => Nat → Int) (fun n m => subNN n (Nat.succ m)) (fun n m => .negSucc (Nat.succ (Nat.add m n))) b m) a b
def negNat (n : Nat) : Int := @Nat.rec (fun _ => Int) (.ofNat 0) (fun m _ => .negSucc m) n
def subG (a b : Int) : Int :=
  @Int.rec (fun _ => Int → Int) (fun m b => @Int.rec (fun _ => Nat → Int) (fun n m => subNN m n) (fun n m => .ofNat (Nat.add m (Nat.succ n))) b m)
    (fun m b => @Int.rec (fun _ => Nat → Int) (fun n m => .negSucc (Nat.add m n)) (fun n m => subNN n m) b m) a b
def mulG (a b : Int) : Int :=
  @Int.rec (fun _ => Int → Int) (fun m b => @Int.rec (fun _ => Nat → Int) (fun n m => .ofNat (Nat.mul m n)) (fun n m => negNat (Nat.mul m (Nat.succ n))) b m)
    (fun m b => @Int.rec (fun _ => Nat → Int) (fun n m => negNat (Nat.mul (Nat.succ m) n)) (fun n m => .ofNat (Nat.mul (Nat.succ m) (Nat.succ n))) b m) a b
/-- a ≤ b -/
def leG (a b : Int) : Bool :=
  @Int.rec (fun _ => Int → Bool) (fun m b => @Int.rec (fun _ => Nat → Bool) (fun n m => Nat.ble m n) (fun n m => false) b m)
    (fun m b => @Int.rec (fun _ => Nat → Bool) (fun n m => true) (fun n m => Nat.ble n m) b m) a b
def eqG (a b : Int) : Bool :=
  @Int.rec (fun _ => Int → Bool) (fun m b => @Int.rec (fun _ => Nat → Bool) (fun n m => Nat.beq m n) (fun n m => false) b m)
    (fun m b => @Int.rec (fun _ => Nat → Bool) (fun n m => false) (fun n m => Nat.beq m n) b m) a b
def quoG (k : IntKind) (a b : Int) : Option Value :=
  @Int.rec (fun _ => Int → IntKind → Option Value) (fun m b k => @Int.rec (fun _ => Nat → IntKind → Option Value)
      (fun n m k => @Nat.rec (fun _ => Option Value) none (fun j _ => some (.int k (wrG k (.ofNat (Nat.div m n))))) n)
      (fun n m k => intOpA .quo k (.ofNat m) (.negSucc n)) b m k)
    (fun m b k => intOpA .quo k (.negSucc m) b) a b k
def remG (k : IntKind) (a b : Int) : Option Value :=
  @Int.rec (fun _ => Int → IntKind → Option Value) (fun m b k => @Int.rec (fun _ => Nat → IntKind → Option Value)
      (fun n m k => @Nat.rec (fun _ => Option Value) none (fun j _ => some (.int k (.ofNat (Nat.mod m n)))) n)
      (fun n m k => intOpA .rem k (.ofNat m) (.negSucc n)) b m k)
    (fun m b k => intOpA .rem k (.negSucc m) b) a b k
def natPow2 (k : IntKind) : Nat := Nat.succ (topK (k))
/-- Bits of numbers that are not below nought and within their kind. -/
def bitG (op : BinOp) (f : Nat → Nat → Nat) (k : IntKind) (a b : Int) : Option Value :=
  @Int.rec (fun _ => Int → BinOp → (Nat → Nat → Nat) → IntKind → Option Value) (fun m b op f k => @Int.rec (fun _ => Nat → BinOp → (Nat → Nat → Nat) → IntKind → Option Value)
      (fun n m op f k => @Bool.rec (fun _ => Option Value) (intOpA op k (.ofNat m) (.ofNat n)) (some (.int k (.ofNat (f m n)))) (Bool.and (Nat.ble m (topK k)) (Nat.ble n (topK k))))
      (fun n m op f k => intOpA op k (.ofNat m) (.negSucc n)) b m op f k)
    (fun m b op f k => intOpA op k (.negSucc m) b) a b op f k

/-- 'op' of two whole numbers of one kind. -/
def iAdd (k : IntKind) (a b : Int) : Option Value := some (.int k (wrG k (addG a b)))
def iSub (k : IntKind) (a b : Int) : Option Value := some (.int k (wrG k (subG a b)))
def iMul (k : IntKind) (a b : Int) : Option Value := some (.int k (wrG k (mulG a b)))
def iAnd (k : IntKind) (a b : Int) : Option Value := bitG .and Nat.land k a b
def iOr (k : IntKind) (a b : Int) : Option Value := bitG .or Nat.lor k a b
def iXor (k : IntKind) (a b : Int) : Option Value := bitG .xor Nat.xor k a b
def iAndNot (k : IntKind) (a b : Int) : Option Value := intOpA .andNot k a b
def iEql (k : IntKind) (a b : Int) : Option Value := some (.bool (eqG a b))
def iNeq (k : IntKind) (a b : Int) : Option Value := some (.bool (Bool.not (eqG a b)))
def iLss (k : IntKind) (a b : Int) : Option Value := some (.bool (Bool.not (leG b a)))
def iLeq (k : IntKind) (a b : Int) : Option Value := some (.bool (leG a b))
def iGtr (k : IntKind) (a b : Int) : Option Value := some (.bool (Bool.not (leG a b)))
def iGeq (k : IntKind) (a b : Int) : Option Value := some (.bool (leG b a))
def bitsK (k : IntKind) : Nat := @IntKind.rec (fun _ => Nat) 8 16 32 64 8 16 32 64 k
def idxK (k : IntKind) : Nat := @IntKind.rec (fun _ => Nat) 0 1 2 3 4 5 6 7 k
def sameK (f : IntKind → Int → Int → Option Value) (k k' : IntKind) (a b : Int) : Option Value :=
  @Bool.rec (fun _ => Option Value) none (f k a b) (Nat.beq (idxK k) (idxK k'))
def iShl (k k' : IntKind) (a b : Int) : Option Value :=
  @Int.rec (fun _ => Int → IntKind → Option Value) (fun m b k => @Int.rec (fun _ => Nat → IntKind → Option Value)
      (fun n m k => @Bool.rec (fun _ => Option Value) (shiftA .shl k (.ofNat m) (.ofNat n)) (some (.int k (wrG k (.ofNat (Nat.mul m (Nat.pow 2 n)))))) (Nat.ble n (bitsK k)))
      (fun n m k => none) b m k)
    (fun m b k => shiftA .shl k (.negSucc m) b) a b k
def iShr (k k' : IntKind) (a b : Int) : Option Value :=
  @Int.rec (fun _ => Int → IntKind → Option Value) (fun m b k => @Int.rec (fun _ => Nat → IntKind → Option Value)
      (fun n m k => @Bool.rec (fun _ => Option Value) (shiftA .shr k (.ofNat m) (.ofNat n)) (some (.int k (.ofNat (Nat.div m (Nat.pow 2 n))))) (Nat.ble n (bitsK k)))
      (fun n m k => none) b m k)
    (fun m b k => shiftA .shr k (.negSucc m) b) a b k
def opI (op : BinOp) : IntKind → IntKind → Int → Int → Option Value :=
  @BinOp.rec (fun _ => IntKind → IntKind → Int → Int → Option Value) (sameK iAdd) (sameK iSub) (sameK iMul) (sameK quoG) (sameK remG) (sameK iAnd) (sameK iOr) (sameK iXor) iShl iShr (sameK iAndNot)
    (sameK iEql) (sameK iNeq) (sameK iLss) (sameK iLeq) (sameK iGtr) (sameK iGeq) op

/-! what a value is -/
def vInt {R : Type} (v : Value) (f : IntKind → Int → R) (d : R) : R :=
  @Value.rec (fun _ => (IntKind → Int → R) → R → R) (fun _ => Unit) (fun _ => Unit) (fun _ _ d => d) (fun k n f _ => f k n) (fun _ _ _ d => d) (fun _ _ _ _ d => d) (fun _ _ d => d) (fun _ _ d => d) (fun _ _ _ _ d => d)
    (fun _ _ d => d) (fun _ _ d => d) (fun _ _ _ _ _ _ d => d) (fun _ d => d) (fun _ _ _ _ d => d) (fun _ d => d) (fun _ _ _ d => d) (fun _ _ _ d => d) (fun _ _ => ()) () (fun _ _ _ _ => ()) v f d
theorem vInt_eq {R : Type} (v : Value) (f : IntKind → Int → R) (d : R) : vInt v f d = match v with | .int k n => f k n | _ => d := by cases v <;> rfl
def vBool {R : Type} (v : Value) (f : Bool → R) (d : R) : R :=
  @Value.rec (fun _ => (Bool → R) → R → R) (fun _ => Unit) (fun _ => Unit) (fun b f _ => f b) (fun _ _ _ d => d) (fun _ _ _ d => d) (fun _ _ _ _ d => d) (fun _ _ d => d) (fun _ _ d => d) (fun _ _ _ _ d => d)
    (fun _ _ d => d) (fun _ _ d => d) (fun _ _ _ _ _ _ d => d) (fun _ d => d) (fun _ _ _ _ d => d) (fun _ d => d) (fun _ _ _ d => d) (fun _ _ _ d => d) (fun _ _ => ()) () (fun _ _ _ _ => ()) v f d
theorem vBool_eq {R : Type} (v : Value) (f : Bool → R) (d : R) : vBool v f d = match v with | .bool b => f b | _ => d := by cases v <;> rfl
def vPtrA {R : Type} (v : Value) (f : Option Addr → R) (d : R) : R :=
  @Value.rec (fun _ => (Option Addr → R) → R → R) (fun _ => Unit) (fun _ => Unit) (fun _ _ d => d) (fun _ _ _ d => d) (fun _ _ _ d => d) (fun _ _ _ _ d => d) (fun _ _ d => d) (fun a f _ => f a) (fun _ _ _ _ d => d)
    (fun _ _ d => d) (fun _ _ d => d) (fun _ _ _ _ _ _ d => d) (fun _ d => d) (fun _ _ _ _ d => d) (fun _ d => d) (fun _ _ _ d => d) (fun _ _ _ d => d) (fun _ _ => ()) () (fun _ _ _ _ => ()) v f d
theorem vPtrA_eq {R : Type} (v : Value) (f : Option Addr → R) (d : R) : vPtrA v f d = match v with | .pointer a => f a | _ => d := by cases v <;> rfl
def vSlc {R : Type} (v : Value) (f : Option Addr → Nat → Nat → R) (d : R) : R :=
  @Value.rec (fun _ => (Option Addr → Nat → Nat → R) → R → R) (fun _ => Unit) (fun _ => Unit) (fun _ _ d => d) (fun _ _ _ d => d) (fun _ _ _ d => d) (fun _ _ _ _ d => d) (fun _ _ d => d) (fun _ _ d => d) (fun a l c f _ => f a l c)
    (fun _ _ d => d) (fun _ _ d => d) (fun _ _ _ _ _ _ d => d) (fun _ d => d) (fun _ _ _ _ d => d) (fun _ d => d) (fun _ _ _ d => d) (fun _ _ _ d => d) (fun _ _ => ()) () (fun _ _ _ _ => ()) v f d
theorem vSlc_eq {R : Type} (v : Value) (f : Option Addr → Nat → Nat → R) (d : R) : vSlc v f d = match v with | .slice a l c => f a l c | _ => d := by cases v <;> rfl
def vAgg {R : Type} (v : Value) (f : Array Value → R) (d : R) : R :=
  @Value.rec (fun _ => (Array Value → R) → R → R) (fun _ => Unit) (fun _ => Unit) (fun _ _ d => d) (fun _ _ _ d => d) (fun _ _ _ d => d) (fun _ _ _ _ d => d) (fun _ _ d => d) (fun _ _ d => d) (fun _ _ _ _ d => d)
    (fun _ _ d => d) (fun _ _ d => d) (fun _ _ _ _ _ _ d => d) (fun _ d => d) (fun _ _ _ _ d => d) (fun _ d => d) (fun a _ f _ => f a) (fun _ _ _ d => d) (fun _ _ => ()) () (fun _ _ _ _ => ()) v f d
theorem vAgg_eq {R : Type} (v : Value) (f : Array Value → R) (d : R) : vAgg v f d = match v with | .agg a => f a | _ => d := by cases v <;> rfl
def vTup {R : Type} (v : Value) (f : Array Value → R) (d : R) : R :=
  @Value.rec (fun _ => (Array Value → R) → R → R) (fun _ => Unit) (fun _ => Unit) (fun _ _ d => d) (fun _ _ _ d => d) (fun _ _ _ d => d) (fun _ _ _ _ d => d) (fun _ _ d => d) (fun _ _ d => d) (fun _ _ _ _ d => d)
    (fun _ _ d => d) (fun _ _ d => d) (fun _ _ _ _ _ _ d => d) (fun _ d => d) (fun _ _ _ _ d => d) (fun _ d => d) (fun _ _ _ d => d) (fun a _ f _ => f a) (fun _ _ => ()) () (fun _ _ _ _ => ()) v f d
theorem vTup_eq {R : Type} (v : Value) (f : Array Value → R) (d : R) : vTup v f d = match v with | .tuple a => f a | _ => d := by cases v <;> rfl

/-- A pointer to a cell that is there. -/
def aPtr {R : Type} (a : Option Addr) (f : Nat → Nat → R) (d : R) : R :=
  @Option.rec Addr (fun _ => (Nat → Nat → R) → R → R) (fun _ d => d)
    (fun a f d => @Addr.rec (fun _ => (Nat → Nat → R) → R → R) (fun b o s f d => @Option.rec Nat (fun _ => Nat → Nat → (Nat → Nat → R) → R → R) (fun b o f _ => f b o) (fun _ _ _ _ d => d) s b o f d) a f d) a f d
theorem aPtr_eq {R : Type} (a : Option Addr) (f : Nat → Nat → R) (d : R) : aPtr a f d = match a with | some ⟨v, o, none⟩ => f v o | _ => d := by
  rcases a with _ | ⟨b, o, _ | s⟩ <;> rfl
def vPtr {R : Type} (v : Value) (f : Nat → Nat → R) (d : R) : R := vPtrA v (fun a => aPtr a f d) d
theorem vPtr_eq {R : Type} (v : Value) (f : Nat → Nat → R) (d : R) : vPtr v f d = match v with | .pointer (some ⟨v, o, none⟩) => f v o | _ => d := by
  unfold vPtr
  cases v with
  | pointer a => rcases a with _ | ⟨b, o, _ | s⟩ <;> rfl
  | _ => rfl

def dInt {R : Type} (t : TypeDesc) (f : IntKind → R) (d : R) : R :=
  @TypeDesc.rec (fun _ => (IntKind → R) → R → R) (fun _ d => d) (fun _ d => d) (fun k f _ => f k) (fun _ _ d => d) (fun _ _ d => d) (fun _ d => d) (fun _ d => d) (fun _ _ d => d) (fun _ _ d => d) (fun _ _ _ d => d) (fun _ _ _ d => d)
    (fun _ _ _ d => d) (fun _ _ d => d) (fun _ _ _ _ d => d) (fun _ _ d => d) (fun _ _ d => d) (fun _ _ _ d => d) t f d
theorem dInt_eq {R : Type} (t : TypeDesc) (f : IntKind → R) (d : R) : dInt t f d = match t with | .int k => f k | _ => d := by cases t <;> rfl
def dStr {R : Type} (t : TypeDesc) (f : Array Field → R) (d : R) : R :=
  @TypeDesc.rec (fun _ => (Array Field → R) → R → R) (fun _ d => d) (fun _ d => d) (fun _ _ d => d) (fun _ _ d => d) (fun _ _ d => d) (fun _ d => d) (fun _ d => d) (fun _ _ d => d) (fun _ _ d => d) (fun _ _ _ d => d) (fun _ _ _ d => d)
    (fun _ _ _ d => d) (fun fs f _ => f fs) (fun _ _ _ _ d => d) (fun _ _ d => d) (fun _ _ d => d) (fun _ _ _ d => d) t f d
theorem dStr_eq {R : Type} (t : TypeDesc) (f : Array Field → R) (d : R) : dStr t f d = match t with | .struct fs => f fs | _ => d := by cases t <;> rfl
def dSlc {R : Type} (t : TypeDesc) (f : TypeId → R) (d : R) : R :=
  @TypeDesc.rec (fun _ => (TypeId → R) → R → R) (fun _ d => d) (fun _ d => d) (fun _ _ d => d) (fun _ _ d => d) (fun _ _ d => d) (fun _ d => d) (fun _ d => d) (fun _ _ d => d) (fun e f _ => f e) (fun _ _ _ d => d) (fun _ _ _ d => d)
    (fun _ _ _ d => d) (fun _ _ d => d) (fun _ _ _ _ d => d) (fun _ _ d => d) (fun _ _ d => d) (fun _ _ _ d => d) t f d
theorem dSlc_eq {R : Type} (t : TypeDesc) (f : TypeId → R) (d : R) : dSlc t f d = match t with | .slice e => f e | _ => d := by cases t <;> rfl
def aggG (t : TypeDesc) : Bool :=
  @TypeDesc.rec (fun _ => Bool) false false (fun _ => false) (fun _ => false) (fun _ => false) false false (fun _ => false) (fun _ => false) (fun _ _ => true) (fun _ _ => false) (fun _ _ => false) (fun _ => true) (fun _ _ _ => false)
    (fun _ => false) (fun _ => false) (fun _ _ => false) t
theorem aggG_eq (t : TypeDesc) : aggG t = aggD t := by cases t <;> rfl

/-! lists, operands, slots -/
def nthG {α : Type} (o : Nat) : List α → Option α :=
  @Nat.rec (fun _ => List α → Option α) (fun cs => @List.rec α (fun _ => Option α) none (fun c _ _ => some c) cs) (fun _ ih cs => @List.rec α (fun _ => Option α) none (fun _ r _ => ih r) cs) o
theorem nthG_eq {α : Type} : ∀ (o : Nat) (cs : List α), nthG o cs = cs[o]?
  | 0, [] => rfl
  | 0, _ :: _ => rfl
  | _ + 1, [] => rfl
  | o + 1, _ :: r => by
    show nthG o r = _
    rw [nthG_eq o r]; rfl

def orUndef (r : Option Value) : Value := @Option.rec Value (fun _ => Value) undefV (fun v => v) r
def fEv (tm : PT Value) (x : Operand) : Value :=
  @Operand.rec (fun _ => PT Value → Value) (fun t tm => orUndef (tm.get t)) (fun v _ => v) (fun g _ => .pointer (some ⟨g, 0, none⟩)) (fun f _ => .func (.func f) #[] #[]) x tm
theorem fEv_eq (σ : St) : fEv σ.tm = σ.ev := by
  funext x
  cases x with
  | tmp t =>
    show @Option.rec Value (fun _ => Value) undefV (fun v => v) (σ.tm.get t) = σ.rd t
    unfold St.rd
    cases σ.tm.get t <;> rfl
  | _ => rfl
def isConstG (x : Operand) : Bool := @Operand.rec (fun _ => Bool) (fun _ => false) (fun _ => true) (fun _ => false) (fun _ => false) x
theorem isConstG_eq (x : Operand) : isConstG x = isConstO x := by cases x <;> rfl

/-! the operations -/
abbrev HT := Env → PT Value → TypeId → Heap → Option AR

/-- Two operands. -/
abbrev B2 := Env → BinOp → TypeId → Bool → Value → Value → Heap → Option AR
def binS : B2 := fun E op t c x y H => symOr (symBin E op t x y) H (k1 (binA E H op t c x y) H)
def binG (E : Env) (op : BinOp) (t : TypeId) (c : Bool) (x y : Value) (H : Heap) : Option AR :=
  vInt (R := B2) x (fun k a E op t c x y H => vInt (R := IntKind → Int → B2) y (fun k' b k a E op t c x y H => k1 (opI op k k' a b) H) (fun _ _ => binS) k a E op t c x y H) binS E op t c x y H

abbrev L2 := Env → TypeId → Value → Heap → Option AR
def loadS : L2 := fun E t x H => k1 (loadA E H t x) H
def loadR (i : TI) (v o : Nat) (H : Heap) : Option AR :=
  @Option.rec Row (fun _ => TI → Nat → Nat → Heap → Option AR) (fun _ _ _ _ => none) (fun r i v o H => @Bool.rec (fun _ => TI → Nat → Nat → Heap → Row → Option AR) (fun i v o H r => k1 (nthG o r.cs) H)
    (fun i v o H r => k1 ((rdCells H v o i.size).map fun cs => .agg cs.toArray) H) (aggG i.d) i v o H r) (rowG H v) i v o H
def loadG (E : Env) (t : TypeId) (x : Value) (H : Heap) : Option AR :=
  vPtr (R := L2) x (fun v o E t x H => @Option.rec TI (fun _ => Nat → Nat → Heap → Option AR) (fun _ _ _ => none) (fun i v o H => loadR i v o H) (E.tt.get t) v o H) loadS E t x H

def cellsL (x : Value) : List Value := vAgg (R := Value → List Value) x (fun a _ => a.toList) (fun v => [v]) x
theorem cellsL_eq (x : Value) : cellsL x = x.cells.toList := by cases x <;> rfl
abbrev S2 := Env → TypeId → Value → Value → Heap → Option AR
def storeS : S2 := fun E t a x H => k3 (storeA E H t a x)
def storeG (E : Env) (t : TypeId) (a x : Value) (H : Heap) : Option AR :=
  vPtr (R := S2) a (fun v o E t a x H => @Option.rec TI (fun _ => Nat → Nat → Value → Heap → Option AR) (fun _ _ _ _ => none)
    (fun i v o x H => @Bool.rec (fun _ => Nat → Nat → Value → Heap → Option AR) (fun _ _ _ _ => none) (fun v o x H => k3 (wrCells H v o (cellsL x))) (Bool.and (known x) (Nat.beq (cellsL x).length i.size)) v o x H) (E.tt.get t) v o x H) storeS E t a x H

abbrev F2 := Env → Nat → Value → Heap → Option AR
def fldG (E : Env) (t : TypeId) (f : Nat) : Option (Field × TI) :=
  @Option.rec TI (fun _ => Env → Nat → Option (Field × TI)) (fun _ _ => none) (fun i E f => dStr (R := Env → Nat → Option (Field × TI)) i.d
    (fun fs E f => @Option.rec Field (fun _ => Env → Option (Field × TI)) (fun _ => none) (fun fd E => @Option.rec TI (fun _ => Field → Option (Field × TI)) (fun _ => none) (fun i fd => some (fd, i)) (E.tt.get fd.type) fd) (nthG f fs.toList) E)
    (fun _ _ => none) E f) (E.tt.get t) E f
def fieldAddrG (E : Env) (t : TypeId) (x : Value) (f : Nat) (H : Heap) : Option AR :=
  @Option.rec (Field × TI) (fun _ => Value → Heap → Option AR) (fun _ _ => none) (fun p x H => @Prod.rec Field TI (fun _ => Value → Heap → Option AR) (fun fd i x H =>
    @Nat.rec (fun _ => Field → Value → Heap → Option AR) (fun _ _ _ => none) (fun _ _ fd x H =>
      vPtr (R := Field → Heap → Option AR) x (fun v o fd H => some (.val (.pointer (some ⟨v, Nat.add o fd.offset, none⟩)) H)) (fun _ _ => none) fd H) i.size fd x H) p x H) (fldG E t f) x H
def fieldG (E : Env) (t : TypeId) (x : Value) (f : Nat) (H : Heap) : Option AR :=
  @Option.rec (Field × TI) (fun _ => Value → Heap → Option AR) (fun _ _ => none) (fun p x H => @Prod.rec Field TI (fun _ => Value → Heap → Option AR) (fun fd i x H =>
    vAgg (R := Field → TI → Heap → Option AR) x (fun cs fd i H => k1 (@Bool.rec (fun _ => Option Value) (nthG fd.offset cs.toList) (partA i cs fd.offset) (aggG i.d)) H) (fun _ _ _ => none) fd i H) p x H) (fldG E t f) x H

abbrev I2 := Env → TypeId → Value → Value → Heap → Option AR
def idxS : I2 := fun E t x i H => symOr (symIdx E t x i) H (k1 (indexAddrA E t x (fixI E i)) H)
def idxP (E : Env) (t : TypeId) (v o l n : Nat) (H : Heap) : Option AR :=
  @Option.rec TI (fun _ => Env → Nat → Nat → Nat → Nat → Heap → Option AR) (fun _ _ _ _ _ _ => none) (fun i E v o l n H => dSlc (R := Env → Nat → Nat → Nat → Nat → Heap → Option AR) i.d
    (fun e E v o l n H => @Option.rec TI (fun _ => Nat → Nat → Nat → Nat → Heap → Option AR) (fun _ _ _ _ _ => none) (fun i v o l n H => @Bool.rec (fun _ => TI → Nat → Nat → Nat → Heap → Option AR) (fun _ _ _ _ _ => none)
        (fun i v o n H => some (.val (.pointer (some ⟨v, Nat.add o (Nat.mul n i.size), none⟩)) H)) (Nat.ble (Nat.succ n) l) i v o n H) (E.tt.get e) v o l n H)
    (fun _ _ _ _ _ _ => none) E v o l n H) (E.tt.get t) E v o l n H
def idxG (E : Env) (t : TypeId) (x i : Value) (H : Heap) : Option AR :=
  vSlc (R := I2) x (fun a l _ E t x i H => vInt (R := Option Addr → Nat → I2) i (fun _ n a l E t x i H => @Int.rec (fun _ => Option Addr → Nat → I2)
      (fun n a l E t x i H => @Option.rec Addr (fun _ => Nat → Nat → I2) (fun _ _ => idxS) (fun a l n E t x i H => idxP E t a.block a.off l n H) a l n E t x i H) (fun _ _ _ => idxS) n a l E t x i H)
    (fun _ _ => idxS) a l E t x i H) idxS E t x i H

abbrev C2 := Env → TypeId → TypeId → Value → Heap → Option AR
def convS : C2 := fun E s d x H => symOr (symConv E s d x) H (k2 (convA E H s d x))
def convG (E : Env) (s d : TypeId) (x : Value) (H : Heap) : Option AR :=
  vInt (R := C2) x (fun k n E s d x H => @Option.rec TI (fun _ => C2) (fun _ _ _ _ _ => none) (fun i E s d x H => dInt (R := C2) i.d
      (fun _ E s d x H => @Option.rec TI (fun _ => C2) (fun _ _ _ _ _ => none) (fun i E s d x H => dInt (R := C2) i.d
        (fun k E s d x H => vInt (R := IntKind → Heap → Option AR) x (fun _ n k H => some (.val (.int k (wrG k n)) H)) (fun _ _ => none) k H) convS E s d x H) (E.tt.get d) E s d x H) convS E s d x H) (E.tt.get s) E s d x H) convS E s d x H

def lenS (E : Env) (ts : Array TypeId) (x : Value) (ty : TypeId) (H : Heap) : Option AR := symOr (symLen E .len ts [x]) H (builtinA E H .len ts ty [x])
def lenG (E : Env) (ts : Array TypeId) (x : Value) (ty : TypeId) (H : Heap) : Option AR :=
  vSlc (R := Env → Array TypeId → Value → TypeId → Heap → Option AR) x (fun _ l _ E ts x ty H => @Option.rec TypeId (fun _ => Env → Array TypeId → Value → TypeId → Nat → Heap → Option AR) (fun _ _ _ _ _ _ => none)
      (fun t E ts x ty l H => @Option.rec TI (fun _ => Env → Array TypeId → Value → TypeId → Nat → Heap → Option AR) (fun _ _ _ _ _ _ => none)
        (fun i E ts x ty l H => dSlc (R := Env → Array TypeId → Value → TypeId → Nat → Heap → Option AR) i.d (fun _ E ts x ty l H => some (.val (.int .i64 l) H)) (fun E ts x ty _ H => lenS E ts x ty H) E ts x ty l H) (E.tt.get t) E ts x ty l H)
      (nthG 0 ts.toList) E ts x ty l H) lenS E ts x ty H
def appG (E : Env) (ts : Array TypeId) (args : List Value) (ty : TypeId) (H : Heap) : Option AR :=
  @List.rec Value (fun _ => Env → Array TypeId → Heap → Option AR) (fun _ _ _ => none) (fun s r _ E ts H => @List.rec Value (fun _ => Value → Env → Array TypeId → Heap → Option AR) (fun _ _ _ _ => none)
    (fun x r _ s E ts H => @List.rec Value (fun _ => Value → Value → Env → Array TypeId → Heap → Option AR) (fun s x E ts H =>
      @Option.rec TypeId (fun _ => Value → Value → Env → Array TypeId → Heap → Option AR) (fun _ _ _ _ _ => none) (fun t0 s x E ts H => @Option.rec TypeId (fun _ => TypeId → Value → Value → Env → Heap → Option AR) (fun _ _ _ _ _ => none)
        (fun t1 t0 s x E H => k2 (appendA E H t0 t1 s x)) (nthG 1 ts.toList) t0 s x E H) (nthG 0 ts.toList) s x E ts H) (fun _ _ _ _ _ _ _ _ => none) r s x E ts H) r s E ts H) args E ts H
abbrev D2 := Env → Array TypeId → List Value → TypeId → Heap → Option AR
def bltS (b : Builtin) : D2 := fun E ts args ty H => symOr (symLen E b ts args) H (builtinA E H b ts ty args)
def bltLen : D2 := fun E ts args ty H => @List.rec Value (fun _ => Env → Array TypeId → TypeId → Heap → Option AR) (fun _ _ _ _ => none)
  (fun x r _ E ts ty H => @List.rec Value (fun _ => Value → Env → Array TypeId → TypeId → Heap → Option AR) (fun x E ts ty H => lenG E ts x ty H) (fun y r _ x E ts ty H => bltS .len E ts (x :: y :: r) ty H) r x E ts ty H) args E ts ty H
def bltG (b : Builtin) : D2 :=
  @Builtin.rec (fun _ => D2) appG (bltS .cap) (bltS .clear) (bltS .close) (bltS .complex) (bltS .copy) (bltS .delete) (bltS .imag) bltLen (bltS .make) (bltS .max) (bltS .min) (bltS .new) (bltS .panic) (bltS .print) (bltS .println) (bltS .real) (bltS .recover)
    (bltS .unsafeAdd) (bltS .unsafeSlice) (bltS .unsafeSliceData) (bltS .unsafeString) (bltS .unsafeStringData) (bltS .unsafeSizeof) (bltS .unsafeAlignof) (bltS .unsafeOffsetof) b
def mapG (tm : PT Value) (l : List Operand) : List Value := @List.rec Operand (fun _ => PT Value → List Value) (fun _ => []) (fun x _ ih tm => fEv tm x :: ih tm) l tm
theorem mapG_eq (tm : PT Value) : ∀ l : List Operand, mapG tm l = l.map (fEv tm)
  | [] => rfl
  | x :: l => by
    show fEv tm x :: mapG tm l = _
    rw [mapG_eq tm l]; rfl
def vFn {R : Type} (v : Value) (f : Fn → Array Value → Array Value → R) (d : R) : R :=
  @Value.rec (fun _ => (Fn → Array Value → Array Value → R) → R → R) (fun _ => Unit) (fun _ => Unit) (fun _ _ d => d) (fun _ _ _ d => d) (fun _ _ _ d => d) (fun _ _ _ _ d => d) (fun _ _ d => d) (fun _ _ d => d) (fun _ _ _ _ d => d)
    (fun _ _ d => d) (fun _ _ d => d) (fun fn a b _ _ f _ => f fn a b) (fun _ d => d) (fun _ _ _ _ d => d) (fun _ d => d) (fun _ _ _ d => d) (fun _ _ _ d => d) (fun _ _ => ()) () (fun _ _ _ _ => ()) v f d
def callVG (E : Env) (v : Value) (args : List Value) (H : Heap) : Option AR :=
  vFn (R := Env → List Value → Heap → Option AR) v (fun fn first cap E args H => @Fn.rec (fun _ => Array Value → Array Value → Env → List Value → Heap → Option AR)
    (fun f first cap E args H => @Option.rec ExtK (fun _ => FuncId → List Value → Env → Heap → Option AR) (fun f all _ _ => some (.call f all)) (fun k _ all E H => k2 (extA E k H all)) (E.ext.get f) f (first.toList ++ args ++ cap.toList) E H)
    (fun _ _ _ _ _ _ => none) (fun _ _ _ _ _ _ _ => none) (fun _ _ _ _ _ _ _ _ _ => none) (fun _ _ _ _ _ _ => none) fn first cap E args H) (fun _ _ _ => none) E args H
def callG (c : Call) (E : Env) (tm : PT Value) (ty : TypeId) (H : Heap) : Option AR :=
  @Callee.rec (fun _ => Call → HT) (fun f c E tm ty H => callVG E (fEv tm f) (mapG tm c.args.toList) H) (fun _ _ _ _ _ _ _ => none) (fun b c E tm ty H => bltG b E c.argTypes (mapG tm c.args.toList) ty H) c.callee c E tm ty H

def hMove (x : Operand) : HT := fun E tm ty H => some (.val (fEv tm x) H)
def hPick (c a b : Operand) : HT := fun E tm ty H => fPick (fEv tm c) (fEv tm a) (fEv tm b) H
def hAlloc (e : TypeId) : HT := fun E tm ty H => fAlloc E e H
def hBox (e : TypeId) (x : Operand) : HT := fun E tm ty H => @Bool.rec (fun _ => Option AR) none (k2 (newRowA E H e (cellsL (fEv tm x)))) (known (fEv tm x))
def hBuild (t : TypeId) (parts : Array (Nat × Operand)) : HT := fun E tm ty H => k1 (buildA E t (parts.toList.map fun x => (x.1, fEv tm x.2))) H
def hBuildS (t : TypeId) (len : Nat) (parts : Array (Nat × Operand)) : HT := fun E tm ty H => k2 (buildSliceA E H t len (parts.toList.map fun x => (x.1, fEv tm x.2)))
def hMapUpd (t : TypeId) (m k x : Operand) : HT := fun E tm ty H => k3 (mapUpdateA E H t (fEv tm m) (fEv tm k) (fEv tm x))
def hLoad (t : TypeId) (a : Operand) : HT := fun E tm ty H => loadG E t (fEv tm a) H
def hStore (t : TypeId) (a x : Operand) : HT := fun E tm ty H => storeG E t (fEv tm a) (fEv tm x) H
def hNone1 (g : Nat) : HT := fun _ _ _ _ => none
def hNil (x : Operand) : HT := fun E tm ty H => fNil (fEv tm x) H
def hBin (op : BinOp) (t : TypeId) (x y : Operand) (yt : TypeId) : HT := fun E tm ty H => binG E op t (Bool.or (isConstG x) (isConstG y)) (fEv tm x) (fEv tm y) H
def hUn (op : UnOp) (t : TypeId) (x : Operand) : HT := fun E tm ty H => k1 (unA op (fEv tm x)) H
def hConv (s d : TypeId) (x : Operand) : HT := fun E tm ty H => convG E s d (fEv tm x) H
def hNone2 (d : TypeId) (x : Operand) : HT := fun _ _ _ _ => none
def hMkI (t : TypeId) (x : Operand) : HT := fun E tm ty H => fMkI E t (fEv tm x) H
def hMkF (fn : Fn) (first captured : Array Operand) : HT := fun E tm ty H => some (.val (.func fn (first.map (fEv tm)) (captured.map (fEv tm))) H)
def hMkM (t : TypeId) (r : Option Operand) : HT := fun E tm ty H => fMkM r H
def hMkS (t : TypeId) (l c : Operand) : HT := fun E tm ty H => k2 (makeSliceA E H t (fEv tm l) (fEv tm c))
def hSlc (t : TypeId) (x : Operand) (lo hi mx : Option Operand) : HT := fun E tm ty H => symOr (symSl E t (fEv tm x) (lo.map (fEv tm)) (hi.map (fEv tm)) (mx.map (fEv tm))) H (k1 (sliceAbs E t (fEv tm x) (lo.map (fEv tm)) (hi.map (fEv tm)) (mx.map (fEv tm))) H)
def hFA (t : TypeId) (x : Operand) (f : Nat) : HT := fun E tm ty H => fieldAddrG E t (fEv tm x) f H
def hFld (t : TypeId) (x : Operand) (f : Nat) : HT := fun E tm ty H => fieldG E t (fEv tm x) f H
def hIA (t : TypeId) (x i : Operand) : HT := fun E tm ty H => idxG E t (fEv tm x) (fEv tm i) H
def hIdx (t : TypeId) (x i : Operand) : HT := fun E tm ty H => k1 (indexA E t (fEv tm x) (fixI E (fEv tm i))) H
def hLook (t : TypeId) (x k : Operand) (ok : Bool) : HT := fun E tm ty H => k1 (lookupA E H t (fEv tm x) (fEv tm k) ok) H
def hNone3 (t : TypeId) (m k : Operand) : HT := fun _ _ _ _ => none
def hNone4 (t : TypeId) (m s x : Operand) : HT := fun _ _ _ _ => none
def hRange (t : TypeId) (x : Operand) : HT := fun E tm ty H => k2 (rangeA E H t (fEv tm x))
def hNext (it : Operand) (s : Bool) : HT := fun E tm ty H => k2 (nextA H (fEv tm it) s)
def hEntry (it : Operand) : HT := fun E tm ty H => k1 (entryA H (fEv tm it)) H
def hTA (x : Operand) (t a : TypeId) (ok : Bool) : HT := fun E tm ty H => k1 (typeAssertA E (fEv tm x) a ok) H
def hExtr (t : Operand) (i : Nat) : HT := fun E tm ty H => vTup (R := Nat → Heap → Option AR) (fEv tm t) (fun vs i H => k1 (nthG i vs.toList) H) (fun _ _ => none) i H
def hNoneC (c : Call) : HT := fun _ _ _ _ => none
def hNoneP (x : Operand) : HT := fun _ _ _ _ => none
def hNoneS (a x : Operand) : HT := fun _ _ _ _ => none
def hNoneR (t : TypeId) (x : Operand) (ok : Bool) : HT := fun _ _ _ _ => none
def hNoneL (cs : Array SelectCase) (b : Bool) : HT := fun _ _ _ _ => none

def opG (o : Op) : HT :=
  @Op.rec (fun _ => HT) hMove hMove hPick hAlloc hBox hBuild hBuildS hMapUpd hLoad hStore hNone1 hNone1 hNil hBin hUn hConv hNone2 hMkI hMkF hMkM hNone2 hMkS hSlc hFA hFld hIA hIdx hLook hMapUpd hNone3 hNone4 hRange hNext hEntry hTA hExtr
    callG hNoneC hNoneC hNoneP hNoneS hNoneR hNoneL o

/-! regions -/
abbrev XF := Code → Nat → PT Value → Heap → Option (AEx × St)
def fWr (n : Nat) (tm : PT Value) (d : Option Nat) (v : Value) (H : Heap) : Option St :=
  @Option.rec Nat (fun _ => Nat → PT Value → Value → Heap → Option St) (fun n tm v H => some ⟨n, tm, H⟩)
    (fun t n tm v H => @Bool.rec (fun _ => Nat → Nat → PT Value → Value → Heap → Option St) (fun _ _ _ _ _ => none) (fun t n tm v H => some ⟨n, tm.set t (some v), H⟩) (Nat.ble (Nat.succ t) n) t n tm v H) d n tm v H

/-- Arguments laid into slots. -/
def argF (args : List Value) : PT Value → Nat → PT Value :=
  @List.rec Value (fun _ => PT Value → Nat → PT Value) (fun t _ => t) (fun x _ ih t i => ih (t.set i (some x)) (Nat.succ i)) args
theorem argF_eq : ∀ (args : List Value) (t : PT Value) (i : Nat), argF args t i = PT.ofListFrom t i args
  | [], _, _ => rfl
  | x :: l, t, i => by
    show argF l (t.set i (some x)) (i + 1) = _
    rw [argF_eq l]; rfl
def resVG (E : Env) (tm : PT Value) (H : Heap) (x : ResultVar) : Option Value :=
  @ResultVar.rec (fun _ => Env → PT Value → Heap → Option Value) (fun t _ tm _ => some (orUndef (tm.get t))) (fun a t E tm H => loadA E H t (orUndef (tm.get a))) x E tm H
def resLG (E : Env) (tm : PT Value) (H : Heap) (l : List ResultVar) : Option (List Value) :=
  @List.rec ResultVar (fun _ => Option (List Value)) (some []) (fun x _ ih => @Option.rec Value (fun _ => Option (List Value) → Option (List Value)) (fun _ => none)
    (fun v ih => @Option.rec (List Value) (fun _ => Value → Option (List Value)) (fun _ => none) (fun vs v => some (v :: vs)) ih v) (resVG E tm H x) ih) l
def resFin (l : List Value) : Value := @List.rec Value (fun _ => Value) (.tuple #[]) (fun v r _ => @List.rec Value (fun _ => Value → Value) (fun v => v) (fun w r' _ v => .tuple (v :: w :: r').toArray) r v) l
def resultsG (E : Env) (fn : Func) (σ : St) : Option Value :=
  @St.rec (fun _ => Env → Func → Option Value) (fun _ tm H E fn => @Option.rec (List Value) (fun _ => Option Value) none (fun l => some (resFin l)) (resLG E tm H fn.results.toList)) σ E fn
def outR (E : Env) (fn : Func) (σ : St) : Option (Value × Heap) := @Option.rec Value (fun _ => St → Option (Value × Heap)) (fun _ => none) (fun v σ => some (v, σ.H)) (resultsG E fn σ) σ
def outG (E : Env) (fn : Func) (r : Option (AEx × St)) : Option (Value × Heap) :=
  @Option.rec (AEx × St) (fun _ => Env → Func → Option (Value × Heap)) (fun _ _ => none) (fun p E fn => @Prod.rec AEx St (fun _ => Env → Func → Option (Value × Heap)) (fun x σ E fn =>
    @AEx.rec (fun _ => St → Env → Func → Option (Value × Heap)) (fun σ E fn => outR E fn σ) (fun _ _ _ _ => none) (fun σ E fn => outR E fn σ) x σ E fn) p E fn) r E fn
def callB (E : Env) (X : XF) (fn : Func) (args : List Value) (H : Heap) : Option (Value × Heap) :=
  @Option.rec Code (fun _ => Env → XF → Func → List Value → Heap → Option (Value × Heap)) (fun _ _ _ _ _ => none) (fun c E X fn args H =>
    @Bool.rec (fun _ => Code → Env → XF → Func → List Value → Heap → Option (Value × Heap)) (fun _ _ _ _ _ _ => none) (fun c E X fn args H => outG E fn (X c fn.ntmps (argF args PT.room 0) H))
      (Nat.ble args.length fn.ntmps) c E X fn args H) fn.body E X fn args H
def callX (E : Env) (X : XF) (f : FuncId) (args : List Value) (H : Heap) : Option (Value × Heap) :=
  @Option.rec PrimK (fun _ => Env → XF → FuncId → List Value → Heap → Option (Value × Heap)) (fun E X f args H =>
    @Option.rec Func (fun _ => Env → XF → List Value → Heap → Option (Value × Heap)) (fun _ _ _ _ => none) (fun fn E X args H => callB E X fn args H) (E.ft.get f) E X args H)
    (fun k E _ _ args H => primA E k args H) (E.prim.get f) E X f args H

def runK (dst : Option Nat) (r : Option (Value × Heap)) (n : Nat) (tm : PT Value) : Option St :=
  @Option.rec (Value × Heap) (fun _ => Option Nat → Nat → PT Value → Option St) (fun _ _ _ => none) (fun p dst n tm => @Prod.rec Value Heap (fun _ => Option Nat → Nat → PT Value → Option St) (fun v H dst n tm => fWr n tm dst v H) p dst n tm) r dst n tm
def runR (r : Option AR) (E : Env) (X : XF) (dst : Option Nat) (n : Nat) (tm : PT Value) (H : Heap) : Option St :=
  @Option.rec AR (fun _ => Env → XF → Option Nat → Nat → PT Value → Heap → Option St) (fun _ _ _ _ _ _ => none)
    (fun r => @AR.rec (fun _ => Env → XF → Option Nat → Nat → PT Value → Heap → Option St) (fun v H' _ _ dst n tm _ => fWr n tm dst v H') (fun f args E X dst n tm H => runK dst (callX E X f args H) n tm) r) r E X dst n tm H
def fRun (E : Env) (X : XF) (dst : Option Nat) (op : Op) (ty : TypeId) (n : Nat) (tm : PT Value) (H : Heap) : Option St :=
  runR (opG op E tm ty H) E X dst n tm H

/-- What the guard's operation gave. -/
def guardV (want : Bool) (v : Value) : Option Bool :=
  vBool (R := Bool → Value → Option Bool) v (fun b want _ => some (b == want)) (fun _ v => vTup (R := Option Bool) v (fun _ => some false) none) want v
def fGuard (tm : PT Value) (want : Bool) (d : Option Nat) : Option Bool :=
  @Option.rec Nat (fun _ => PT Value → Bool → Option Bool) (fun _ _ => some false) (fun d tm want => guardV want (orUndef (tm.get d))) d tm want

/-- The slot of an earlier operation: counted from here. -/
def fSlot (ops : List Oper) (prev : List (Option Nat)) (i j : Nat) : Option Nat :=
  @Bool.rec (fun _ => Option Nat) ((ops[j]?).bind (·.dst)) ((prev[i - 1 - j]?).getD none) (Nat.ble (Nat.succ j) i)

def stepG (E : Env) (X : XF) (ops : List Oper) (prev : List (Option Nat)) (i : Nat) (o : Oper) (n : Nat) (tm : PT Value) (H : Heap) : Option St :=
  @Oper.rec (fun _ => Env → XF → List Oper → List (Option Nat) → Nat → Nat → PT Value → Heap → Option St) (fun dst op ty _ _ gd E X ops prev i n tm H =>
    @Option.rec (Nat × Bool) (fun _ => Env → XF → Option Nat → Op → TypeId → List Oper → List (Option Nat) → Nat → Nat → PT Value → Heap → Option St) (fun E X dst op ty _ _ _ n tm H => fRun E X dst op ty n tm H)
      (fun g E X dst op ty ops prev i n tm H => @Option.rec Bool (fun _ => Env → XF → Option Nat → Op → TypeId → Nat → PT Value → Heap → Option St) (fun _ _ _ _ _ _ _ _ => none)
        (fun b E X dst op ty n tm H => @Bool.rec (fun _ => Env → XF → Option Nat → Op → TypeId → Nat → PT Value → Heap → Option St) (fun _ _ dst _ _ n tm H => fWr n tm dst undefV H) fRun b E X dst op ty n tm H)
        (fGuard tm g.2 (fSlot ops prev i g.1)) E X dst op ty n tm H) gd E X dst op ty ops prev i n tm H) o E X ops prev i n tm H

abbrev RF := Env → XF → List Oper → Nat → List (Option Nat) → Nat → PT Value → Heap → Option St
def regNext (ih : RF) (E : Env) (X : XF) (ops : List Oper) (i : Nat) (prev : List (Option Nat)) (d : Option Nat) (r : Option St) : Option St :=
  @Option.rec St (fun _ => RF → Env → XF → List Oper → Nat → List (Option Nat) → Option Nat → Option St) (fun _ _ _ _ _ _ _ => none)
    (fun σ ih E X ops i prev d => @St.rec (fun _ => RF → Env → XF → List Oper → Nat → List (Option Nat) → Option Nat → Option St) (fun n tm H ih E X ops i prev d => ih E X ops (Nat.succ i) (d :: prev) n tm H) σ ih E X ops i prev d) r ih E X ops i prev d
def fReg (l : List Oper) : RF :=
  @List.rec Oper (fun _ => RF) (fun _ _ _ _ _ n tm H => some ⟨n, tm, H⟩) (fun o _ ih E X ops i prev n tm H => regNext ih E X ops i prev o.dst (stepG E X ops prev i o n tm H)) l

/-! regions that draw their order -/
def lAll {α : Type} (f : α → Bool) (l : List α) : Bool := @List.rec α (fun _ => Bool) true (fun x _ ih => @Bool.rec (fun _ => Bool) false ih (f x)) l
theorem lAll_eq {α : Type} (f : α → Bool) : ∀ l : List α, lAll f l = l.all f
  | [] => rfl
  | x :: r => by
    show @Bool.rec (fun _ => Bool) false (lAll f r) (f x) = _
    rw [lAll_eq f r, List.all_cons]
    cases f x <;> rfl
def hfV (v : Value) : Bool :=
  @Value.rec (fun _ => Bool) (fun _ => Unit) (fun _ => Unit) (fun _ => true) (fun _ _ => true) (fun _ _ => false) (fun _ _ _ => false) (fun _ => true) (fun _ => false) (fun _ _ _ => false) (fun _ => false)
    (fun _ => false) (fun _ _ _ _ _ => false) false (fun _ _ _ => false) false (fun _ _ => false) (fun _ _ => false) (fun _ _ => ()) () (fun _ _ _ _ => ()) v
def hfG (op : Op) (tm : PT Value) : Bool :=
  @Op.rec (fun _ => PT Value → Bool) (fun _ _ => true) (fun _ _ => true) (fun _ _ _ _ => true) (fun _ _ => false) (fun _ _ _ => false) (fun _ _ _ => true) (fun _ _ _ _ => false) (fun _ _ _ _ _ => false)
    (fun _ _ _ => false) (fun _ _ _ _ => false) (fun _ _ => false) (fun _ _ => false) (fun _ _ => true) (fun _ _ x _ _ tm => hfV (fEv tm x)) (fun _ _ _ _ => true) (fun _ _ _ _ => false) (fun _ _ _ => false) (fun _ _ _ => true)
    (fun _ _ _ _ => true) (fun _ _ _ => false) (fun _ _ _ => false) (fun _ _ _ _ => false) (fun _ _ _ _ _ _ => true) (fun _ _ _ _ => true) (fun _ _ _ _ => true) (fun _ _ _ _ => true) (fun _ _ _ _ => true) (fun _ _ _ _ _ => false)
    (fun _ _ _ _ _ => false) (fun _ _ _ _ => false) (fun _ _ _ _ _ => false) (fun _ _ _ => false) (fun _ _ _ => false) (fun _ _ => false) (fun _ _ _ _ _ => true) (fun _ _ _ => true)
    (fun _ _ => false) (fun _ _ => false) (fun _ _ => false) (fun _ _ => false) (fun _ _ _ => false) (fun _ _ _ _ => false) (fun _ _ _ => false) op tm
def veqG (a b : Value) : Bool :=
  vInt (R := Value → Value → Bool) a (fun k n a b => vInt (R := IntKind → Int → Value → Value → Bool) b (fun k' n' k n _ _ => @Bool.rec (fun _ => Bool) false (eqG n n') (Nat.beq (idxK k) (idxK k'))) (fun _ _ a b => veq 20 a b) k n a b) (fun a b => veq 20 a b) a b
def sameR (r r' : Option AR) : Bool :=
  @Option.rec AR (fun _ => Option AR → Bool) (fun _ => false) (fun x r' => @Option.rec AR (fun _ => AR → Bool) (fun _ => false) (fun y x => @AR.rec (fun _ => AR → Bool)
    (fun v _ y => @AR.rec (fun _ => Value → Bool) (fun v' _ v => veqG v v') (fun _ _ _ => false) y v) (fun _ _ _ => false) x y) r' x) r r'
def consG (s : St) (r : Option (List St)) : Option (List St) := @Option.rec (List St) (fun _ => St → Option (List St)) (fun _ => none) (fun l s => some (s :: l)) r s
abbrev SF := Env → XF → List Oper → Nat → PT Value → Heap → Option (List St)
def stNext (ih : SF) (E : Env) (X : XF) (ops : List Oper) (s : St) (r : Option St) : Option (List St) :=
  @Option.rec St (fun _ => SF → Env → XF → List Oper → St → Option (List St)) (fun _ _ _ _ _ => none)
    (fun σ ih E X ops s => @St.rec (fun _ => SF → Env → XF → List Oper → St → Option (List St)) (fun n tm H ih E X ops s => consG s (ih E X ops n tm H)) σ ih E X ops s) r ih E X ops s
def statesG (l : List (Nat × Oper)) : SF :=
  @List.rec (Nat × Oper) (fun _ => SF) (fun _ _ _ n tm H => some [⟨n, tm, H⟩]) (fun x _ ih E X ops n tm H => stNext ih E X ops ⟨n, tm, H⟩ (stepG E X ops [] 0 x.2 n tm H)) l
def wantG (ops : List Oper) (tm : PT Value) (o : Oper) : Option Bool :=
  @Option.rec (Nat × Bool) (fun _ => List Oper → PT Value → Option Bool) (fun _ _ => some true) (fun g ops tm => fGuard tm g.2 (fSlot ops [] 0 g.1)) o.guard ops tm
def atG (E : Env) (op : Op) (ty : TypeId) (tm : PT Value) (H : Heap) (r : Option St) : Bool :=
  @Option.rec St (fun _ => Env → Op → TypeId → PT Value → Heap → Bool) (fun _ _ _ _ _ => false)
    (fun s E op ty tm H => @St.rec (fun _ => Env → Op → TypeId → PT Value → Heap → Bool) (fun _ _ H2 E op ty tm H => sameR (opG op E tm ty H) (opG op E tm ty H2)) s E op ty tm H) r E op ty tm H
/-- One operation of a drawn region: does it read the same wherever it may stand? -/
def chkRd (E : Env) (ops : List Oper) (as : List Nat) (eps : List (Nat × Nat × Bool)) (cand : List Nat) (all : List St) (i : Nat) (o : Oper) (s : St) : Bool :=
  @Option.rec Bool (fun _ => Bool) true (fun b => @Bool.rec (fun _ => Bool) true
    (@Bool.rec (fun _ => Bool) (lAll (fun p => @Bool.rec (fun _ => Bool) true (atG E o.op o.type s.tm s.H (nthG p all)) (allowedA as eps i p)) cand) true (hfG o.op s.tm)) b) (wantG ops s.tm o)
def chkFr (E : Env) (ops : List Oper) (fr : List Nat) (i : Nat) (o : Oper) (s : St) : Bool :=
  match fr.contains i with
  | false => true
  | true => match wantedA ops s o with
    | some true => (match aop E s.ev o s.H with
      | some (.val _ H') => plainRow H' s.H.next
      | _ => false)
    | _ => true
def chkG (E : Env) (ops : List Oper) (as fr : List Nat) (eps : List (Nat × Nat × Bool)) (cand : List Nat) (all : List St) (its : List (Nat × Oper)) : List St → Bool :=
  @List.rec (Nat × Oper) (fun _ => List St → Bool) (fun _ => true) (fun x _ ih l => @List.rec St (fun _ => Bool) true (fun s ss _ =>
    @Bool.rec (fun _ => Bool) false (ih ss) (@Bool.rec (fun _ => Bool) (chkFr E ops fr x.1 x.2 s) (chkRd E ops as eps cand all x.1 x.2 s) (readsOnly E x.2))) l) its
def lastG (l : List St) : Option St := @List.rec St (fun _ => Option St) none (fun s _ ih => @Option.rec St (fun _ => Option St) (some s) (fun t => some t) ih) l
def drawG (E : Env) (X : XF) (ops : List Oper) (as fr : List Nat) (its : List (Nat × Oper)) (eps : List (Nat × Nat × Bool)) (n : Nat) (tm : PT Value) (H : Heap) : Option St :=
  @Option.rec (List St) (fun _ => Option St) none (fun ss => @Bool.rec (fun _ => Option St) none (lastG ss) (chkG E ops as fr eps (eps.map (·.1) ++ [its.length]) ss its ss)) (statesG its E X ops n tm H)
def fDraw (E : Env) (X : XF) (ops : List Oper) (n : Nat) (tm : PT Value) (H : Heap) : Option St :=
  @List.rec Nat (fun _ => Option St) (fReg ops E X ops 0 [] n tm H)
    (fun _ _ _ => drawG E X ops (ancs ops []) (freesOf ops (ancs ops []) (effs E ops 0)) (planOf ops (ancs ops []) (freesOf ops (ancs ops []) (effs E ops 0)))
      (epsOf E (freesOf ops (ancs ops []) (effs E ops 0)) (planOf ops (ancs ops []) (freesOf ops (ancs ops []) (effs E ops 0))) 0) n tm H) (effs E ops 0)

/-! code -/
abbrev CR := Option (AEx × St)
abbrev CF := Env → XF → Nat → PT Value → Heap → CR
def norm (r : Option St) : CR := @Option.rec St (fun _ => CR) none (fun σ => some (.normal, σ)) r
def cSkip : CF := fun E X n tm H => some (.normal, ⟨n, tm, H⟩)
def cRegion (id : Nat) (ops : Array Oper) (draw : Bool) : CF := fun E X n tm H =>
  @Bool.rec (fun _ => List Oper → CF) (fun l E X n tm H => norm (fReg l E X l 0 [] n tm H)) (fun l E X n tm H => norm (fDraw E X l n tm H)) draw ops.toList E X n tm H
def thenG (X : XF) (b : Code) (r : CR) : CR :=
  @Option.rec (AEx × St) (fun _ => XF → Code → CR) (fun _ _ => none) (fun p X b => @Prod.rec AEx St (fun _ => XF → Code → CR) (fun x σ X b =>
    @AEx.rec (fun _ => St → XF → Code → CR) (fun σ X b => @St.rec (fun _ => XF → Code → CR) (fun n tm H X b => X b n tm H) σ X b) (fun j σ _ _ => some (.exit j, σ)) (fun σ _ _ => some (.ret, σ)) x σ X b) p X b) r X b
def cSeq (a b : Code) (_ _ : CF) : CF := fun E X n tm H => thenG X b (X a n tm H)
def cCond (c : Operand) (a b : Code) (_ _ : CF) : CF := fun E X n tm H =>
  vBool (R := Code → Code → XF → Nat → PT Value → Heap → CR) (fEv tm c) (fun t a b X n tm H => @Bool.rec (fun _ => Code → Code → XF → Nat → PT Value → Heap → CR) (fun _ b X n tm H => X b n tm H) (fun a _ X n tm H => X a n tm H) t a b X n tm H)
    (fun _ _ _ _ _ _ => none) a b X n tm H
def blockG (id : Nat) (r : CR) : CR :=
  @Option.rec (AEx × St) (fun _ => Nat → CR) (fun _ => none) (fun p id => @Prod.rec AEx St (fun _ => Nat → CR) (fun x σ id =>
    @AEx.rec (fun _ => St → Nat → CR) (fun σ _ => some (.normal, σ)) (fun j σ id => @Bool.rec (fun _ => Nat → St → CR) (fun j σ => some (.exit j, σ)) (fun _ σ => some (.normal, σ)) (Nat.beq j id) j σ) (fun σ _ => some (.ret, σ)) x σ id) p id) r id
def cBlock (id : Nat) (b : Code) (_ : CF) : CF := fun E X n tm H => blockG id (X b n tm H)
def cLoop (b : Code) (_ : CF) : CF := fun E X n tm H => thenG X (.loop b) (X b n tm H)
def cRF (f : Operand) (ps : Array Tmp) (a b : Code) (_ _ : CF) : CF := fun _ _ _ _ _ => none
def cExit (id : Nat) : CF := fun E X n tm H => some (.exit id, ⟨n, tm, H⟩)
def cScope (b : Code) (_ : CF) : CF := fun _ _ _ _ _ => none
def cLabel (l : Nat) : CF := cSkip
def cGoto (l : Nat) : CF := fun _ _ _ _ _ => none
def cRet : CF := fun E X n tm H => some (.ret, ⟨n, tm, H⟩)
def cRefuse (w : String) : CF := fun _ _ _ _ _ => none
def codeG (c : Code) : CF := @Code.rec (fun _ => CF) cSkip cRegion cSeq cCond cBlock cLoop cRF cExit cScope cLabel cGoto cRet cRefuse c
def fExec (E : Env) (k : Nat) : XF := @Nat.rec (fun _ => Env → XF) (fun _ _ _ _ _ => none) (fun _ ih E c n tm H => codeG c E (ih E) n tm H) k E
end
end Go.Vsx
