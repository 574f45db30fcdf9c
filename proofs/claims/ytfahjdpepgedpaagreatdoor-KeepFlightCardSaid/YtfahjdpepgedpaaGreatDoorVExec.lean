/- The executor: what an operation, a region, a function does to the abstract heap. Plain functions; that they are right is Sound's. -/
import Derived.Test.YtfahjdpepgedpaaGreatDoorVBase
import GoSem.Dispatch
import Derived.Orders
import Derived.Lib.Bytealg
set_option linter.all false
namespace Go.Vsx
open Go
noncomputable section

/-- A row of cells: the known front, how many cells there are at least, the element's type and its cells; is it only read; may it have more capacity than is known; may a mark lie behind it. -/
structure Row where
  cs : List Value
  lb : Nat
  elem : TypeId
  esz : Nat
  ro : Bool
  opn : Bool
  fz : Bool

inductive AObj where
  | row (r : Row)
  | map (es : List MapEntry) (clock : Nat)
  | mapIter (m : Option Nat) (since : Nat) (seen : List Nat) (stepped : Nat)
  | strIter (s : ByteArray) (pos : Nat)
  | lmap (es : List MapEntry)

structure Heap where
  next : Nat
  m : PT AObj

def Heap.get (H : Heap) (v : Nat) : Option AObj := H.m.get v
def Heap.put (H : Heap) (v : Nat) (o : AObj) : Heap := @Heap.rec (fun _ => Heap) (fun n m => ⟨n, m.set v (some o)⟩) H
def Heap.kill (H : Heap) (v : Nat) : Heap := @Heap.rec (fun _ => Heap) (fun n m => ⟨n, m.set v none⟩) H
def Heap.add (H : Heap) (o : AObj) : Heap := @Heap.rec (fun _ => Heap) (fun n m => ⟨Nat.succ n, m.set n (some o)⟩) H
theorem Heap.put_def (H : Heap) (v : Nat) (o : AObj) : H.put v o = { H with m := H.m.set v (some o) } := rfl
theorem Heap.kill_def (H : Heap) (v : Nat) : H.kill v = { H with m := H.m.set v none } := rfl
theorem Heap.add_def (H : Heap) (o : AObj) : H.add o = { next := H.next + 1, m := H.m.set H.next (some o) } := rfl
def Heap.row (H : Heap) (v : Nat) : Option Row := match H.get v with | some (.row r) => some r | _ => none

structure TI where
  d : TypeDesc
  size : Nat
  bytes : Nat
  zero : Option Value
  comp : Bool
  sth : Bool
  egt : Bool

/-- Library functions without a body that the executor knows. -/
inductive ExtK where
  | overlaps (elem : TypeId) | mapsClone | noEscape | makeNoZero (elem : TypeId) | count | cmp | indexByte
  deriving DecidableEq

/-- Functions with a body that are taken by a contract: slices.Insert at a slice type, slices.Sorted over maps.Keys of a map with string keys; a call without arguments whose answer is known. -/
inductive PrimK where
  | insert (T : TypeId) | sortedKeys (elem : TypeId) (clos : List FuncId) | sortedInts (elem : TypeId) (clos : List FuncId) | memo (v : Value) | itoa | rep | join | split (e : TypeId) | atoi | atoi2 (te : TypeId) | frontX | sorted1 (elem : TypeId) (clos : List FuncId)

/-- What an operation on values that are not known (atoms) gives: of two whole numbers; of one, turned into another kind; a slice's length; an element's place; the lesser, the greater of two; a slice's front. -/
inductive SOp where
  | bin (op : BinOp) | conv (k : IntKind) | len | idx (s : Nat) | mn | mx | slTo | fix | nil
  | sbin (op : BinOp) | slen | snoc | itoa | rep | cnt | piece (i : Nat) | atoi | sfrom | sto | aerr | scmp

def SOp.same : SOp → SOp → Bool
  | .bin a, .bin b => decide (a = b)
  | .conv a, .conv b => decide (a = b)
  | .len, .len => true
  | .idx a, .idx b => Nat.beq a b
  | .mn, .mn => true
  | .mx, .mx => true
  | .slTo, .slTo => true
  | .fix, .fix => true
  | .nil, .nil => true
  | .sbin a, .sbin b => decide (a = b)
  | .slen, .slen => true
  | .snoc, .snoc => true
  | .itoa, .itoa => true
  | .rep, .rep => true
  | .cnt, .cnt => true
  | .piece a, .piece b => Nat.beq a b
  | .atoi, .atoi => true
  | .sfrom, .sfrom => true
  | .sto, .sto => true
  | .aerr, .aerr => true
  | .scmp, .scmp => true
  | _, _ => false

structure SE where
  op : SOp
  x : Value
  y : Value
  r : Value

def svSame : Value → Value → Bool
  | .chan (some a), .chan (some b) => Nat.beq a b
  | .int k a, .int k' b => decide (k = k') && decide (a = b)
  | .string a, .string b => decide (a.data.toList = b.data.toList)
  | _, _ => false

def symFind (op : SOp) (x y : Value) : List SE → Option Value
  | [] => none
  | e :: l => match e.op.same op && svSame e.x x && svSame e.y y with
    | true => some e.r
    | false => symFind op x y l

structure Env where
  tt : PT TI
  ft : PT Func
  ext : PT ExtK
  prim : PT PrimK
  sy : PT (List SE)

def atomKey : Value → Value → Option Nat
  | .chan (some a), _ => some a
  | _, .chan (some a) => some a
  | _, _ => none

def symLook (E : Env) (op : SOp) (x y : Value) : Option Value :=
  match atomKey x y with
  | none => none
  | some a => match E.sy.get a with
    | none => none
    | some l => symFind op x y l

/-- An index that is an atom, told as a number. -/
def fixI (E : Env) (v : Value) : Value :=
  match v with
  | .chan a => match symLook E .fix (.chan a) (.int .i64 0) with
    | some r => r
    | none => .chan a
  | v => v

/-- Are two whole numbers, of which one is an atom, the same? -/
def symEq (E : Env) (x y : Value) : Option Bool :=
  match symLook E (.bin .eql) x y with
  | some (.bool b) => some b
  | _ => none

/-- Are two strings, of which one is an atom, the same? -/
def symEqS (E : Env) (x y : Value) : Option Bool :=
  match symLook E (.sbin .eql) x y with
  | some (.bool b) => some b
  | _ => none

/-- A value that stands for itself. -/
def plainC : Value → Bool
  | .int _ _ | .bool _ | .string _ | .nilFunc | .nilIface | .pointer none | .map none | .slice none _ _ => true
  | _ => false

def isAtomV : Value → Bool
  | .chan _ => true
  | _ => false

def aggD : TypeDesc → Bool
  | .struct _ | .array _ _ => true
  | _ => false

/-- A value that is not known at all is no cell. -/
def known : Value → Bool
  | .chan none => false
  | _ => true
def okCell (v : Value) : Bool := v.oneCell' && known v

section
variable (E : Env)
def tyD (t : TypeId) : Option TypeDesc := (E.tt.get t).map (·.d)
def tySize (t : TypeId) : Option Nat := (E.tt.get t).map (·.size)
def tySth (t : TypeId) : Option Bool := (E.tt.get t).map (·.sth)
def tyEgt (t : TypeId) : Option Bool := (E.tt.get t).map (·.egt)
def tyZero (t : TypeId) : Option Value := (E.tt.get t).bind (·.zero)

def rdCells (H : Heap) (v o n : Nat) : Option (List Value) := do
  let r ← H.row v
  if o + n ≤ r.cs.length then some ((r.cs.drop o).take n) else none

/-- Cells laid into a list, from 'o' on; 'none': the list ends ahead of 'o'. -/
def layL (vs : List Value) (n : Nat) (o : Nat) : List Value → Option (List Value) :=
  @Nat.rec (fun _ => List Value → Option (List Value)) (fun cs => some (vs ++ cs.drop n))
    (fun _ ih cs => @List.rec Value (fun _ => Option (List Value)) none (fun c r _ => @Option.rec (List Value) (fun _ => Option (List Value)) none (fun l => some (c :: l)) (ih r)) cs) o
def rowG (H : Heap) (v : Nat) : Option Row :=
  @Option.rec AObj (fun _ => Option Row) none (fun o => @AObj.rec (fun _ => Option Row) (fun r => some r) (fun _ _ => none) (fun _ _ _ _ => none) (fun _ _ => none) (fun _ => none) o) (H.m.get v)
theorem rowG_eq (H : Heap) (v : Nat) : rowG H v = H.row v := by
  unfold rowG Heap.row Heap.get
  cases H.m.get v with
  | none => rfl
  | some o => cases o <;> rfl
def okG (v : Value) : Bool :=
  @Value.rec (fun _ => Bool) (fun _ => Unit) (fun _ => Unit) (fun _ => true) (fun _ _ => true) (fun _ _ => true) (fun _ _ _ => true) (fun _ => true) (fun _ => true) (fun _ _ _ => true) (fun _ => true)
    (fun r => @Option.rec Nat (fun _ => Bool) false (fun _ => true) r) (fun _ _ _ _ _ => true) true (fun _ _ _ => true) true (fun _ _ => false) (fun _ _ => false) (fun _ _ => ()) () (fun _ _ _ _ => ()) v
theorem okG_eq (v : Value) : okG v = okCell v := by
  cases v with
  | chan r => cases r <;> rfl
  | _ => rfl
def allG (vs : List Value) : Bool := @List.rec Value (fun _ => Bool) true (fun v _ ih => @Bool.rec (fun _ => Bool) false ih (okG v)) vs
theorem allG_eq : ∀ vs : List Value, allG vs = vs.all okCell
  | [] => rfl
  | v :: r => by
    show @Bool.rec (fun _ => Bool) false (allG r) (okG v) = _
    rw [okG_eq, allG_eq r, List.all_cons]
    cases okCell v <;> rfl
def lenG0 {α : Type} (l : List α) : Nat := @List.rec α (fun _ => Nat) 0 (fun _ _ ih => Nat.succ ih) l
theorem lenG0_eq {α : Type} : ∀ l : List α, lenG0 l = l.length
  | [] => rfl
  | _ :: r => by show Nat.succ (lenG0 r) = _; rw [lenG0_eq r]; rfl
def wrRow (H : Heap) (v o : Nat) (vs : List Value) (r : Row) : Option Heap :=
  @Row.rec (fun _ => Heap → Nat → Nat → List Value → Option Heap) (fun cs lb e s ro op fz H v o vs =>
    @Bool.rec (fun _ => Heap → Nat → Nat → List Value → Option Heap) (fun H v o vs =>
      @Bool.rec (fun _ => Heap → Nat → Nat → List Value → Option Heap) (fun _ _ _ _ => none) (fun H v o vs =>
        @Bool.rec (fun _ => Heap → Nat → Nat → List Value → Option Heap) (fun _ _ _ _ => none) (fun H v o vs =>
          @Option.rec (List Value) (fun _ => Option Heap) none (fun l => some (H.put v (.row ⟨l, lb, e, s, ro, op, fz⟩))) (layL vs (lenG0 vs) o cs))
          (allG vs) H v o vs) (Nat.ble (Nat.add o (lenG0 vs)) lb) H v o vs) (fun _ _ _ _ => none) ro H v o vs) r H v o vs
def wrCells (H : Heap) (v o : Nat) (vs : List Value) : Option Heap :=
  @Option.rec Row (fun _ => Heap → Nat → Nat → List Value → Option Heap) (fun _ _ _ _ => none) (fun r H v o vs => wrRow H v o vs r) (rowG H v) H v o vs

def loadA (H : Heap) (t : TypeId) (a : Value) : Option Value := do
  let i ← E.tt.get t
  match a with
  | .pointer (some ⟨v, o, none⟩) =>
    if aggD i.d then do
      let cs ← rdCells H v o i.size
      some (.agg cs.toArray)
    else do
      let r ← H.row v
      r.cs[o]?
  | _ => none

def storeA (H : Heap) (t : TypeId) (a x : Value) : Option Heap := do
  let i ← E.tt.get t
  match a with
  | .pointer (some ⟨v, o, none⟩) => if known x && Nat.beq x.cells.size i.size then wrCells H v o x.cells.toList else none
  | _ => none

def newRowA (H : Heap) (elem : TypeId) (cs : List Value) : Option (Value × Heap) := do
  let s ← tySize E elem
  some (.pointer (some ⟨H.next, 0, none⟩), H.add (.row ⟨cs, cs.length, elem, s, false, false, false⟩))

/-- Cells of 'n' zero elements. -/
def zerosA (z : Value) (n : Nat) : List Value := (List.replicate n z.cells.toList).flatten

def fieldOf (t : TypeId) (f : Nat) : Option (Nat × TI) := do
  match (← tyD E t) with
  | .struct fs => do
    let fd ← fs[f]?
    let i ← E.tt.get fd.type
    some (fd.offset, i)
  | _ => none

def partA (i : TI) (cs : Array Value) (off : Nat) : Option Value :=
  if aggD i.d then some (.agg (cs.extract off (off + i.size))) else cs[off]?

/-- Fields, one behind the other. -/
def eqFs (f : TypeId → Value → Value → Option Bool) (xs ys : Array Value) : List Field → Option Bool
  | [] => some true
  | fd :: r => if fd.name = "_" then none else do
    let i ← E.tt.get fd.type
    let a ← partA i xs fd.offset
    let b ← partA i ys fd.offset
    let q ← f fd.type a b
    match q with
    | true => eqFs f xs ys r
    | false => some false

/-- '==' on values of a type. -/
def eqA : (d : Nat) → TypeId → Value → Value → Option Bool
  | 0 => fun _ _ _ => none
  | d + 1 => fun t x y =>
    match tyD E t with
    | none => none
    | some td => match td, x, y with
    | .bool, .bool a, .bool b => some (a == b)
    | .int _, .int k a, .int k' b => if k = k' then some (a == b) else none
    | .int _, .chan a, y => symEq E (.chan a) y
    | .int _, x, .chan b => symEq E x (.chan b)
    | .string, .string a, .string b => some (a == b)
    | .pointer _, .pointer none, .pointer none => some true
    | .pointer _, .pointer none, .pointer (some _) => some false
    | .pointer _, .pointer (some _), .pointer none => some false
    | .interface _, .nilIface, .nilIface => some true
    | .interface _, .nilIface, .iface _ _ => some false
    | .interface _, .iface _ _, .nilIface => some false
    | .interface _, .iface tx vx, .iface ty vy =>
      if tx ≠ ty then some false else do
        let i ← E.tt.get tx
        if i.comp then eqA d tx vx vy else none
    | .slice _, .slice none _ _, .slice none _ _ => some true
    | .slice _, .slice none _ _, .slice (some _) _ _ => some false
    | .slice _, .slice (some _) _ _, .slice none _ _ => some false
    | .map _ _, .map none, .map none => some true
    | .map _ _, .map none, .map (some _) => some false
    | .map _ _, .map (some _), .map none => some false
    | .func _ _ _, .nilFunc, .nilFunc => some true
    | .func _ _ _, .nilFunc, .func _ _ _ => some false
    | .func _ _ _, .func _ _ _, .nilFunc => some false
    | .struct fs, .agg xs, .agg ys => match tySth E t with
      | some false => eqFs E (eqA d) xs ys fs.toList
      | _ => none
    | _, _, _ => none

/-- '==' between two pointers that are not nil. -/
def eqPtr (H : Heap) (t : TypeId) : Value → Value → Option Bool
  | .pointer (some ⟨v, o, none⟩), .pointer (some ⟨v', o', none⟩) => do
    match (← tyD E t) with
    | .pointer e => do
      let s ← tySize E e
      if s = 0 then none else
      if v = v' then some (o == o') else do
        let r ← H.row v
        let r' ← H.row v'
        if !r.ro && !r'.ro && !r.fz && !r'.fz then some false else none
    | _ => none
  | _, _ => none

def intOpA (op : BinOp) (k : IntKind) (a b : Int) : Option Value :=
  match op with
  | .add => some (.int k (k.wrap (a + b)))
  | .sub => some (.int k (k.wrap (a - b)))
  | .mul => some (.int k (k.wrap (a * b)))
  | .quo => if b = 0 then none else some (.int k (k.wrap (a.tdiv b)))
  | .rem => if b = 0 then none else some (.int k (a.tmod b))
  | .and => some (.int k (k.wrap ((BitVec.ofInt k.bits a &&& BitVec.ofInt k.bits b).toNat)))
  | .or => some (.int k (k.wrap ((BitVec.ofInt k.bits a ||| BitVec.ofInt k.bits b).toNat)))
  | .xor => some (.int k (k.wrap ((BitVec.ofInt k.bits a ^^^ BitVec.ofInt k.bits b).toNat)))
  | .andNot => some (.int k (k.wrap ((BitVec.ofInt k.bits a &&& ~~~ BitVec.ofInt k.bits b).toNat)))
  | .eql => some (.bool (a == b))
  | .neq => some (.bool (a != b))
  | .lss => some (.bool (a < b))
  | .leq => some (.bool (a ≤ b))
  | .gtr => some (.bool (a > b))
  | .geq => some (.bool (a ≥ b))
  | _ => none

def shiftA (op : BinOp) (k : IntKind) (a b : Int) : Option Value :=
  if b < 0 then none else
    let n := min b.toNat k.bits
    match op with
    | .shl => some (.int k (k.wrap (a * 2 ^ n)))
    | .shr => some (.int k (a.fdiv (2 ^ n)))
    | _ => none

def strOpA (op : BinOp) (x y : ByteArray) : Option Value :=
  match op with
  | .add => if x.size + y.size < 2 ^ 62 then some (.string (x ++ y)) else none
  | .eql => some (.bool (x.toList == y.toList))
  | .neq => some (.bool !(x.toList == y.toList))
  | .lss => some (.bool (Op.bytesLess x.toList y.toList))
  | .leq => some (.bool (Op.bytesLess x.toList y.toList || x.toList == y.toList))
  | .gtr => some (.bool !(Op.bytesLess x.toList y.toList || x.toList == y.toList))
  | .geq => some (.bool !(Op.bytesLess x.toList y.toList))
  | _ => none

def isConstO : Operand → Bool
  | .const _ => true
  | _ => false

def binA (H : Heap) (op : BinOp) (t : TypeId) (cst : Bool) (x y : Value) : Option Value :=
  match op, x, y with
  | .shl, .int k a, .int _ b | .shr, .int k a, .int _ b => shiftA op k a b
  | _, .int k a, .int k' b => if k = k' then intOpA op k a b else none
  | _, .string a, .string b => strOpA op a b
  | .eql, .pointer (some a), .pointer (some b) => (eqPtr E H t (.pointer (some a)) (.pointer (some b))).map .bool
  | .neq, .pointer (some a), .pointer (some b) => (eqPtr E H t (.pointer (some a)) (.pointer (some b))).map fun b => .bool (!b)
  | .eql, x, y => if guardA x y then (eqA E 100 t x y).map .bool else none
  | .neq, x, y => if guardA x y then (eqA E 100 t x y).map fun b => .bool (!b) else none
  | _, _, _ => none
where
  guardA : Value → Value → Bool
    | .chan _, _ => false
    | _, .chan _ => false
    | .nilIface, .nilIface => cst
    | .agg _, .agg _ => match tyEgt E t with
      | some false => true
      | _ => false
    | _, _ => true

def unA (op : UnOp) (x : Value) : Option Value :=
  match op, x with
  | .neg, .int k n => some (.int k (k.wrap (0 - n)))
  | .not, .bool b => some (.bool !b)
  | _, _ => none

def bytesOfCells : List Value → Option (List UInt8)
  | [] => some []
  | .int .u8 n :: r => if 0 ≤ n ∧ n < 256 then (bytesOfCells r).map (UInt8.ofNat n.toNat :: ·) else none
  | _ => none

def byteCells (s : ByteArray) : List Value := s.data.toList.map fun b => .int .u8 b.toNat

/-- Bytes of which some are atoms, put behind a string. -/
def snocA (acc : Value) : List Value → Option Value
  | [] => some acc
  | c :: r => match symLook E .snoc acc c with
    | some a => snocA a r
    | none => none

def convA (H : Heap) (src dst : TypeId) (x : Value) : Option (Value × Heap) := do
  match (← tyD E src), (← tyD E dst), x with
  | .int _, .int k, .int _ n => some (.int k (k.wrap n), H)
  | .string, .string, .string s => some (.string s, H)
  | .string, .slice e, .string s =>
    match (← tyD E e) with
    | .int .u8 => do
      if (← tySize E e) = 1 && s.size < 2 ^ 40 then
        some (.slice (some ⟨H.next, 0, some 1⟩) s.size s.size, H.add (.row ⟨byteCells s, s.size, e, 1, false, true, true⟩))
      else none
    | _ => none
  | .slice _, .slice e, .slice (some ⟨v, o, sp⟩) l c =>
    match src == dst, (← tyD E e) with
    | true, .int .u8 => do
      let r ← H.row v
      if r.ro then none else some (.slice (some ⟨v, o, sp⟩) l c, H.put v (.row { r with fz := true }))
    | _, _ => none
  | .slice e, .string, .slice none _ _ =>
    match (← tyD E e) with
    | .int .u8 => some (.string .empty, H)
    | _ => none
  | .slice e, .string, .slice (some ⟨v, o, _⟩) l _ =>
    match (← tyD E e) with
    | .int .u8 => do
      let cs ← rdCells H v o l
      match bytesOfCells cs with
      | some bs => some (.string ⟨bs.toArray⟩, H)
      | none => (snocA E (.string .empty) cs).map fun r => (r, H)
    | _ => none
  | .pointer e, .unsafePointer, .pointer (some ⟨v, o, none⟩) => do
    let r ← H.row v
    let s ← tySize E e
    if !r.ro && Nat.blt o r.lb && Nat.blt 0 s then some (.pointer (some ⟨v, o, none⟩), H) else none
  | .unsafePointer, .pointer e, .pointer (some ⟨v, o, none⟩) => do
    let r ← H.row v
    let s ← tySize E e
    if !r.ro && !r.opn && r.elem == e && Nat.beq o 0 && Nat.blt 0 s && Nat.ble s r.lb then some (.pointer (some ⟨v, o, none⟩), H) else none
  | _, _, _ => none

def natIn (v : Option Value) (dflt : Nat) (most : Nat) : Option Nat :=
  match v with
  | none => some dflt
  | some (.int _ i) => if 0 ≤ i ∧ i ≤ most then some i.toNat else none
  | _ => none

/-- 'x[l:h:m]' of bounds: low, high, cap. -/
def boundsA (len cap : Nat) (low high max : Option Value) : Option (Nat × Nat × Nat) := do
  if high.isNone && max.isSome then none
  let m ← natIn max cap cap
  let h ← natIn high len m
  let l ← natIn low 0 h
  if Nat.ble h m then some (l, h, m) else none

def addA (a : Addr) (n : Nat) : Addr := { a with off := a.off + n }

def sliceAbs (t : TypeId) (x : Value) (low high max : Option Value) : Option Value := do
  match (← tyD E t), x with
  | .array n e, .pointer (some ⟨v, o, none⟩) => do
    let (l, h, m) ← boundsA n n low high max
    let s ← tySize E e
    some (.slice (some ⟨v, if m = l then o else o + l * s, none⟩) (h - l) (m - l))
  | .string, .string s => do
    if max.isSome then none
    let (l, h, _) ← boundsA s.size s.size low high none
    some (.string (s.extract l h))
  | .slice e, .slice none len cap => do
    let (l, h, m) ← boundsA len cap low high max
    let _ ← tySize E e
    some (.slice none (h - l) (m - l))
  | .slice e, .slice (some ⟨v, o, none⟩) len cap => do
    let (l, h, m) ← boundsA len cap low high max
    let s ← tySize E e
    some (.slice (some ⟨v, if m = l then o else o + l * s, none⟩) (h - l) (m - l))
  | .slice e, .slice (some ⟨v, o, some 1⟩) len cap => do
    let (l, h, m) ← boundsA len cap low high max
    let s ← tySize E e
    match max with
    | none => some (.slice (some ⟨v, o + l * s, some 1⟩) (h - l) (m - l))
    | some _ => some (.slice (some ⟨v, if m = l then o else o + l * s, none⟩) (h - l) (m - l))
  | _, _ => none

def intOfV : Value → Option Int
  | .int _ i => some i
  | _ => none

def indexAddrA (t : TypeId) (x ix : Value) : Option Value := do
  let i ← intOfV ix
  match (← tyD E t), x with
  | .array n e, .pointer (some ⟨v, o, none⟩) => do
    let s ← tySize E e
    if 0 ≤ i ∧ i < n then some (.pointer (some ⟨v, o + i.toNat * s, none⟩)) else none
  | .slice e, .slice (some ⟨v, o, _⟩) len _ => do
    let s ← tySize E e
    if 0 ≤ i ∧ i < len then some (.pointer (some ⟨v, o + i.toNat * s, none⟩)) else none
  | _, _ => none

def indexA (t : TypeId) (x ix : Value) : Option Value := do
  let i ← intOfV ix
  match (← tyD E t), x with
  | .array n e, .agg cs => do
    let ti ← E.tt.get e
    if 0 ≤ i ∧ i < n then partA ti cs (i.toNat * ti.size) else none
  | .string, .string s =>
    if 0 ≤ i then (s[i.toNat]?).map fun b => .int .u8 b.toNat else none
  | _, _ => none

/-- The key's place in a map. -/
def keySame (d : TypeDesc) : Value → Value → Option Bool
  | .int k a, .int k' b => match d with | .int _ => if k = k' then some (a == b) else none | _ => none
  | .string a, .string b => match d with | .string => some (a == b) | _ => none
  | .bool a, .bool b => match d with | .bool => some (a == b) | _ => none
  | _, _ => none
def keyEqA (kt : TypeId) (k k2 : Value) : Option Bool :=
  match tyD E kt with
  | some (.int j) => match symEq E k k2 with
    | some b => some b
    | none => keySame (.int j) k k2
  | some .string => match symEqS E k k2 with
    | some b => some b
    | none => keySame .string k k2
  | some .bool => keySame .bool k k2
  | some (.struct _) => match k, k2 with
    | .agg a, .agg b => eqA E 100 kt (.agg a) (.agg b)
    | _, _ => none
  | _ => none
def findA (kt : TypeId) (k : Value) : List MapEntry → Nat → Option (Option (Nat × Value))
  | [], _ => some none
  | e :: es, i => match keyEqA E kt k e.key with
    | some true => some (some (i, e.val))
    | some false => findA kt k es (i + 1)
    | none => none
/-- A key that holds no interface value, and has the parts of its type. -/
def checkA : Nat → TypeId → Value → Bool
  | 0 => fun _ _ => false
  | n + 1 => fun t v => match tyD E t, v with
    | some (.int _), _ => true
    | some .string, _ => true
    | some .bool, _ => true
    | some (.struct fs), .agg cs => fs.toList.all fun f => f.name != "_" && match E.tt.get f.type with
      | some i => match partA i cs f.offset with
        | some x => checkA n f.type x
        | none => false
      | none => false
    | _, _ => false
def getMap (H : Heap) : Value → Option (List MapEntry)
  | .map none => some []
  | .map (some r) => match H.get r with
    | some (.map es _) => some es
    | _ => none
  | _ => none
def lookupA0 (H : Heap) (t : TypeId) (x k : Value) (ok : Bool) : Option Value :=
  match tyD E t with
  | some (.map kt et) => do
    let es ← getMap H x
    if checkA E 20 kt k then
      match findA E kt k es 0 with
      | some (some (_, v)) => some (if ok then .tuple #[v, .bool true] else v)
      | some none => (tyZero E et).map fun z => if ok then .tuple #[z, .bool false] else z
      | none => none
    else none
  | _ => none
def flatEq : Value → Value → Bool
  | .int j a, .int k b => j == k && a == b
  | .string a, .string b => a == b
  | .bool a, .bool b => a == b
  | _, _ => false
def flatEqS (E : Env) (a b : Value) : Bool :=
  flatEq a b || match symEq E a b with
    | some c => c
    | none => match symEqS E a b with
      | some c => c
      | none => false
def sameKeyBits (E : Env) (a b : Value) : Bool :=
  match a, b with
  | .agg a, .agg b => a.size == b.size && (a.toList.zip b.toList).all fun x => flatEqS E x.1 x.2
  | a, b => flatEqS E a b
def mapUpdateA0 (H : Heap) (t : TypeId) (x k v : Value) : Option Heap :=
  match tyD E t, x with
  | some (.map kt _), .map (some r) =>
    match H.get r with
    | some (.map es clock) =>
      if checkA E 20 kt k then
        match findA E kt k es 0 with
        | some (some (i, _)) => match es[i]? with
          | some e => if sameKeyBits E e.key k then some (H.put r (.map (es.set i { e with key := k, val := v }) clock)) else none
          | none => none
        | some none => some (H.put r (.map (es ++ [{ key := k, val := v, born := clock }]) (clock + 1)))
        | none => none
      else none
    | _ => none
  | _, _ => none
def deleteA0 (H : Heap) (t : TypeId) (x k : Value) : Option Heap :=
  match tyD E t, x with
  | some (.map kt _), .map none => if checkA E 20 kt k then some H else none
  | some (.map kt _), .map (some r) =>
    match H.get r with
    | some (.map es clock) =>
      if checkA E 20 kt k then
        match findA E kt k es 0 with
        | some (some (i, _)) => some (H.put r (.map (es.eraseIdx i) clock))
        | some none => some H
        | none => none
      else none
    | _ => none
  | _, _ => none

/-! maps whose entries lie in any order -/
def lmapAt (H : Heap) (x : Value) : Option (Nat × List MapEntry) :=
  match x with
  | .map (some r) => match H.get r with
    | some (.lmap es) => some (r, es)
    | _ => none
  | _ => none
def findL (kt : TypeId) (k : Value) : List MapEntry → Option (Option Value)
  | [] => some none
  | e :: es => match keyEqA E kt k e.key, findL kt k es with
    | some true, some none => some (some e.val)
    | some false, some r => some r
    | _, _ => none
def updL (kt : TypeId) (k v : Value) (es : List MapEntry) : List MapEntry := es.map fun e => match keyEqA E kt k e.key with | some true => { e with key := k, val := v } | _ => e
def delL (kt : TypeId) (k : Value) (es : List MapEntry) : List MapEntry := es.filter fun e => match keyEqA E kt k e.key with | some true => false | _ => true
def sameL (kt : TypeId) (k : Value) (es : List MapEntry) : Bool := es.all fun e => match keyEqA E kt k e.key with | some true => sameKeyBits E e.key k | _ => true
def lookupA (H : Heap) (t : TypeId) (x k : Value) (ok : Bool) : Option Value :=
  match lmapAt H x with
  | none => lookupA0 E H t x k ok
  | some (_, es) => match tyD E t with
    | some (.map kt et) => match checkA E 20 kt k, findL E kt k es with
      | true, some (some v) => some (if ok then .tuple #[v, .bool true] else v)
      | true, some none => (tyZero E et).map fun z => if ok then .tuple #[z, .bool false] else z
      | _, _ => none
    | _ => none
def mapUpdateA (H : Heap) (t : TypeId) (x k v : Value) : Option Heap :=
  match lmapAt H x with
  | none => mapUpdateA0 E H t x k v
  | some (r, es) => match tyD E t with
    | some (.map kt _) => match checkA E 20 kt k, findL E kt k es with
      | true, some (some _) => if sameL E kt k es then some (H.put r (.lmap (updL E kt k v es))) else none
      | true, some none => some (H.put r (.lmap (es ++ [{ key := k, val := v, born := 0 }])))
      | _, _ => none
    | _ => none
def deleteA (H : Heap) (t : TypeId) (x k : Value) : Option Heap :=
  match lmapAt H x with
  | none => deleteA0 E H t x k
  | some (r, es) => match tyD E t with
    | some (.map kt _) => match checkA E 20 kt k, findL E kt k es with
      | true, some (some _) => some (H.put r (.lmap (delL E kt k es)))
      | true, some none => some H
      | _, _ => none
    | _ => none

def lenA (d : TypeDesc) (H : Heap) (x : Value) : Option Nat :=
  match d, x with
  | .string, .string s => some s.size
  | .slice _, .slice _ n _ => some n
  | .map _ _, .map none => some 0
  | .map _ _, .map (some r) => match H.get r with
    | some (.map es _) => some es.length
    | some (.lmap es) => some es.length
    | _ => none
  | _, _ => none

/-- The first 'n' elements' cells of a slice or a string. -/
def frontA (H : Heap) (s n : Nat) : Value → Option (List Value)
  | .slice (some ⟨v, o, _⟩) _ _ => rdCells H v o (n * s)
  | .slice none _ _ => some []
  | .string b => some (((b.data.toList).take n).map fun x => .int .u8 x.toNat)
  | .chan a => match n with
    | 0 => some []
    | n + 1 => match symLook E (.idx s) (.chan a) (.int .i64 0) with
      | some (.pointer (some ⟨v, o, none⟩)) => rdCells H v o ((n + 1) * s)
      | _ => none
  | _ => none

/-- The length of a slice that is an atom, told as a number. -/
def lenZ (a : Option Nat) : Option Nat :=
  match symLook E .len (.chan a) (.int .i64 0) with
  | some (.int _ n) => if 0 ≤ n then some n.toNat else none
  | _ => none

def appendA (H : Heap) (sT xT : TypeId) (s x : Value) : Option (Value × Heap) := do
  match (← tyD E sT) with
  | .slice e => do
    let i ← E.tt.get e
    let xd ← tyD E xT
    let n ← (match xd, x with
      | .int _, .int _ l => if 0 ≤ l ∧ l < 2 ^ 40 then some l.toNat else none
      | .int _, _ => none
      | _, .slice _ l _ => some l
      | _, .string b => some b.size
      | _, .chan a => lenZ E a
      | _, _ => none)
    if !(Nat.ble 1 i.bytes && Nat.ble i.bytes 1048576 && Nat.ble (n * i.bytes) (2 ^ 44)) then none
    let new ← (match xd with
      | .int _ => i.zero.map fun z => zerosA z n
      | _ => frontA E H i.size n x)
    if !(new.all okCell) || i.zero.isNone || !(Nat.beq new.length (n * i.size)) then none
    match s with
    | .slice none l c =>
      if l = 0 ∧ c = 0 then
        if n = 0 then some (.slice none 0 0, H)
        else some (.slice (some ⟨H.next, 0, some 1⟩) n n, H.add (.row ⟨new, n * i.size, e, i.size, false, true, false⟩))
      else none
    | .slice (some ⟨v, o, none⟩) l c => do
      if l + n ≤ c then do
        let H' ← wrCells H v (o + l * i.size) new
        some (.slice (some ⟨v, o, none⟩) (l + n) c, H')
      else do
        if !(Nat.ble ((l + n) * i.bytes) (2 ^ 44)) then none
        let old ← rdCells H v o (l * i.size)
        some (.slice (some ⟨H.next, 0, some 1⟩) (l + n) (l + n), H.add (.row ⟨old ++ new, (l + n) * i.size, e, i.size, false, true, false⟩))
    | .slice (some ⟨v, o, some 1⟩) l c => do
      if l + n ≤ c then do
        let H' ← wrCells H v (o + l * i.size) new
        some (.slice (some ⟨v, o, some 1⟩) (l + n) c, H')
      else do
        if !(Nat.ble ((l + n) * i.bytes) (2 ^ 44)) then none
        let r ← H.row v
        if r.ro || !r.opn || r.fz || r.esz != i.size || r.elem != e || o + c * i.size != r.lb || !(Nat.ble (o + l * i.size) r.cs.length) then none
        let old := (r.cs.drop o).take (l * i.size)
        some (.slice (some ⟨H.next, 0, some 1⟩) (l + n) (l + n), (H.kill v).add (.row ⟨old ++ new, (l + n) * i.size, e, i.size, false, true, false⟩))
    | _ => none
  | _ => none

def copyA (H : Heap) (dT : TypeId) (d x : Value) : Option (Value × Heap) := do
  match (← tyD E dT), d with
  | .slice e, .slice a dl _ => do
    let s ← tySize E e
    let sl ← (match x with | .slice _ n _ => some n | .string b => some b.size | _ => none)
    let n := Nat.min sl dl
    let cs ← frontA E H s n x
    match a with
    | none => some (.int .i64 n, H)
    | some ⟨v, o, _⟩ => if cs.isEmpty then some (.int .i64 n, H) else do
      let H' ← wrCells H v o cs
      some (.int .i64 n, H')
  | _, _ => none

def clearA (H : Heap) (t : TypeId) (x : Value) : Option Heap := do
  match (← tyD E t), x with
  | _, .map none => some H
  | _, .slice none _ _ => some H
  | _, .slice _ 0 _ => some H
  | _, .map (some r) => match H.get r with
    | some (.map _ clock) => some (H.put r (.map [] clock))
    | _ => none
  | .slice e, .slice (some ⟨v, o, _⟩) n _ => do
    let z ← tyZero E e
    wrCells H v o (zerosA z n)
  | _, _ => none

def rangeA (H : Heap) (t : TypeId) (x : Value) : Option (Value × Heap) := do
  match (← tyD E t), x with
  | .string, .string s => some (.pointer (some ⟨H.next, 0, none⟩), H.add (.strIter s 0))
  | .map _ _, .map none => some (.pointer (some ⟨H.next, 0, none⟩), H.add (.mapIter none 0 [] 0))
  | .map _ _, .map (some r) => match H.get r with
    | some (.map _ clock) => some (.pointer (some ⟨H.next, 0, none⟩), H.add (.mapIter (some r) clock [] clock))
    | _ => none
  | _, _ => none

def nextA (H : Heap) (it : Value) (isString : Bool) : Option (Value × Heap) :=
  match it with
  | .pointer (some ⟨r, 0, none⟩) =>
    match H.get r, isString with
    | some (.strIter s pos), true =>
      if pos < s.size then
        let cw := Utf8.decode s pos
        some (.tuple #[.bool true, .int .i64 pos, .int .i32 cw.1], H.put r (.strIter s (pos + cw.2)))
      else some (.tuple #[.bool false], H)
    | some (.mapIter none _ _ _), false => some (.tuple #[.bool false], H)
    | some (.mapIter (some m) since seen last), false =>
      match H.get m with
      | some (.map es clock) =>
        if !seen.isEmpty && !es.isEmpty && es.all (fun e => Nat.ble last e.born) then none else
        let left := es.filter fun e => !seen.contains e.born
        let old := left.filter fun e => Nat.blt e.born since
        let new := left.filter fun e => Nat.ble since e.born
        match old, new with
        | [], [] => some (.tuple #[.bool false], H)
        | [e], [] => some (.tuple #[.bool true, e.key, e.val], H.put r (.mapIter (some m) since (seen ++ [e.born]) clock))
        | _, _ => none
      | _ => none
    | _, _ => none
  | _ => none

def entryA (H : Heap) (it : Value) : Option Value :=
  match it with
  | .pointer (some ⟨r, 0, none⟩) =>
    match H.get r with
    | some (.mapIter (some m) _ seen stepped) =>
      match seen.getLast?, H.get m with
      | some stamp, some (.map es clock) =>
        if clock != stepped then none else
        match es.find? (fun e => e.born == stamp) with
        | some e => some (.tuple #[e.key, e.val])
        | none => none
      | _, _ => none
    | _ => none
  | _ => none

def fillA (place : Nat → Option (Nat × Nat)) (cells : List Value) : List (Nat × Value) → Option (List Value)
  | [] => some cells
  | (i, v) :: rest => do
    let (off, size) ← place i
    let vc := v.cells.toList
    if known v && vc.length = size && Nat.ble (off + size) cells.length then
      fillA place (cells.take off ++ vc ++ cells.drop (off + size)) rest
    else none

def placesA : List Field → Option (List (Nat × Nat))
  | [] => some []
  | f :: r => do
    let s ← tySize E f.type
    let l ← placesA r
    some ((f.offset, s) :: l)

def buildA (t : TypeId) (parts : List (Nat × Value)) : Option Value := do
  let z ← tyZero E t
  match (← tyD E t) with
  | .struct fs => do
    let places ← placesA E fs.toList
    let cs ← fillA (fun i => places[i]?) z.cells.toList parts
    some (.agg cs.toArray)
  | .array _ e => do
    let s ← tySize E e
    let cs ← fillA (fun i => some (i * s, s)) z.cells.toList parts
    some (.agg cs.toArray)
  | _ => none

def buildSliceA (H : Heap) (t : TypeId) (len : Nat) (parts : List (Nat × Value)) : Option (Value × Heap) := do
  match (← tyD E t) with
  | .slice e => do
    let s ← tySize E e
    let z ← tyZero E e
    if len * s ≤ 16777216 && z.cells.size = s then do
      let cs ← fillA (fun i => some (i * s, s)) (zerosA z len) parts
      some (.slice (some ⟨H.next, 0, none⟩) len len, H.add (.row ⟨cs, len * s, e, s, false, false, false⟩))
    else none
  | _ => none

def makeSliceA (H : Heap) (t : TypeId) (l c : Value) : Option (Value × Heap) := do
  match (← tyD E t), l, c with
  | .slice e, .int _ l, .int _ c => do
    let i ← E.tt.get e
    let z ← i.zero
    if 0 ≤ l ∧ l ≤ c ∧ c * i.bytes ≤ 2 ^ 44 ∧ c ≤ 2 ^ 44 ∧ z.cells.size = i.size then
      some (.slice (some ⟨H.next, 0, none⟩) l.toNat c.toNat, H.add (.row ⟨zerosA z c.toNat, c.toNat * i.size, e, i.size, false, false, false⟩))
    else none
  | _, _, _ => none

def fieldAddrA (t : TypeId) (x : Value) (f : Nat) : Option Value := do
  let (off, i) ← fieldOf E t f
  if i.size = 0 then none else
  match x with
  | .pointer (some ⟨v, o, none⟩) => some (.pointer (some ⟨v, o + off, none⟩))
  | _ => none

def fieldA (t : TypeId) (x : Value) (f : Nat) : Option Value := do
  let (off, i) ← fieldOf E t f
  match x with
  | .agg cs => partA i cs off
  | _ => none

def minMaxA (isMax : Bool) : Value → List Value → Option Value
  | x, [] => some x
  | x, y :: r => match x, y with
    | .int k a, .int _ b => minMaxA isMax (.int k (if isMax then (if b > a then b else a) else (if b < a then b else a))) r
    | _, _ => none

def extA (k : ExtK) (H : Heap) (args : List Value) : Option (Value × Heap) :=
  match k, args with
  | .mapsClone, [.iface t (.map (some r))] =>
    match H.get r with
    | some (.map es clock) => some (.iface t (.map (some H.next)), H.add (.map es clock))
    | _ => none
  | .noEscape, [x] => some (x, H)
  | .makeNoZero e, [.int .i64 n] => do
    if (← tySize E e) = 1 && decide (0 ≤ n ∧ n ≤ 2 ^ 40) then
      some (.slice (some ⟨H.next, 0, some 1⟩) n.toNat n.toNat, H.add (.row ⟨[], n.toNat, e, 1, false, true, false⟩))
    else none
  | .count, [.string b, .int .u8 c] => some (.int .i64 (b.data.toList.foldl (fun n x => if x == c.toNat.toUInt8 then n + 1 else n) (0 : Nat)), H)
  | .cmp, [.string a, .string b] => some (.int .i64 (Lib.compareBytes a.data.toList b.data.toList), H)
  | .cmp, [x, y] => (symLook E .scmp x y).map fun r => (r, H)
  | .indexByte, [.string b, .int .u8 c] => some (.int .i64 (Lib.indexByte b.data.toList c.toNat.toUInt8), H)
  | _, _ => none

/-- slices.Insert of one element: at the end as 'append'; ahead of it: a row of its own. -/
def insertSA (H : Heap) (T : TypeId) (args : List Value) : Option (Value × Heap) :=
  match args with
  | [s, .int .i64 i, .slice (some ⟨vx, ox, sx⟩) 1 cx] =>
    match tyD E T, s with
    | some (.slice _), .slice none n c =>
      if i = n ∧ n = 0 ∧ c = 0 then appendA E H T T s (.slice (some ⟨vx, ox, sx⟩) 1 cx) else none
    | some (.slice e), .slice (some ⟨v, o, sp⟩) n c =>
      if i = n ∧ n ≤ c then appendA E H T T s (.slice (some ⟨vx, ox, sx⟩) 1 cx) else
      if 0 ≤ i ∧ i < n ∧ n ≤ c ∧ sp = some 1 then do
        let ti ← E.tt.get e
        let new ← rdCells H vx ox ti.size
        let cs ← rdCells H v o (n * ti.size)
        let r ← H.row v
        let rx ← H.row vx
        if r.ro || !r.opn || r.fz || r.esz != ti.size || r.elem != e || o + c * ti.size != r.lb || rx.ro || rx.fz || vx == v || !(new.all okCell) || !(cs.all okCell) ||
          ti.zero.isNone || !(Nat.ble 1 ti.size && Nat.ble 1 ti.bytes && Nat.ble ((n + 1) * ti.bytes) (2 ^ 40)) then none
        else some (.slice (some ⟨H.next, 0, some 1⟩) (n + 1) (n + 1),
          (H.kill v).add (.row ⟨cs.take (i.toNat * ti.size) ++ new ++ cs.drop (i.toNat * ti.size), (n + 1) * ti.size, e, ti.size, false, true, false⟩))
      else none
    | _, _ => none
  | _ => none

/-- Insertion by the order of strings. -/
def insStr (s : ByteArray) : List ByteArray → List ByteArray
  | [] => [s]
  | t :: l => match Op.bytesLess t.data.toList s.data.toList with
    | true => t :: insStr s l
    | false => s :: t :: l
def sortStr : List ByteArray → List ByteArray
  | [] => []
  | s :: l => insStr s (sortStr l)

def strKeys : List MapEntry → Option (List ByteArray)
  | [] => some []
  | e :: es => match e.key with
    | .string s => (strKeys es).map (s :: ·)
    | _ => none

/-- Rising, each against each. -/
def risingB : List ByteArray → Bool
  | [] => true
  | a :: r => r.all (fun b => Lib.compareBytes a.data.toList b.data.toList == -1) && risingB r
def natsApart : List Nat → Bool
  | [] => true
  | a :: r => r.all (fun b => !Nat.beq a b) && natsApart r

/-- slices.Sorted over maps.Keys of a map with string keys that is not nil. -/
def sortedKeysA (H : Heap) (elem : TypeId) (clos : List FuncId) (args : List Value) : Option (Value × Heap) :=
  match args with
  | [.func (.func f) first captured] =>
    match clos.contains f, first.toList, captured.toList with
    | true, [], [.pointer (some ⟨v, 0, none⟩)] => do
      let r ← H.row v
      if r.ro || r.opn then none else
      match r.cs with
      | .map (some rm) :: _ =>
        match H.get rm with
        | some (.map es clock) => do
          let ks ← strKeys es
          let l := sortStr ks
          if !(risingB l && ks.all (fun k => Nat.ble k.size 1048576) && Nat.ble es.length 1048576 && es.all (fun e => Nat.blt e.born clock) && natsApart (es.map (·.born))) then none else
          match l with
          | [] => some (.slice none 0 0, H)
          | x :: r => some (.slice (some ⟨H.next, 0, some 1⟩) (x :: r).length (x :: r).length, H.add (.row ⟨(x :: r).map Value.string, (x :: r).length, elem, 1, false, true, false⟩))
        | _ => none
      | _ => none
    | _, _, _ => none
  | _ => none

/-! the same of integers -/
def insInt (s : Int) : List Int → List Int
  | [] => [s]
  | t :: l => match decide (t ≤ s) with
    | true => t :: insInt s l
    | false => s :: t :: l
def sortInt : List Int → List Int
  | [] => []
  | s :: l => insInt s (sortInt l)
def intKeysOf : List MapEntry → Option (List Int)
  | [] => some []
  | e :: es => match e.key with
    | .int .i64 n => (intKeysOf es).map (n :: ·)
    | _ => none
def risingI : List Int → Bool
  | [] => true
  | a :: r => r.all (fun b => decide (a < b)) && risingI r

/-- slices.Sorted over maps.Keys of a map with int keys that is not nil. -/
def sortedIntsA (H : Heap) (elem : TypeId) (clos : List FuncId) (args : List Value) : Option (Value × Heap) :=
  match args with
  | [.func (.func f) first captured] =>
    match clos.contains f, first.toList, captured.toList with
    | true, [], [.pointer (some ⟨v, 0, none⟩)] => do
      let r ← H.row v
      if r.ro || r.opn then none else
      match r.cs with
      | .map (some rm) :: _ =>
        match H.get rm with
        | some (.map es clock) => do
          let ks ← intKeysOf es
          let l := sortInt ks
          if !(risingI l && ks.all (fun k => decide (-9223372036854775808 ≤ k ∧ k ≤ 9223372036854775807)) && Nat.ble es.length 1048576 && es.all (fun e => Nat.blt e.born clock) && natsApart (es.map (·.born))) then none else
          match l with
          | [] => some (.slice none 0 0, H)
          | x :: r => some (.slice (some ⟨H.next, 0, some 1⟩) (x :: r).length (x :: r).length, H.add (.row ⟨(x :: r).map (Value.int .i64), (x :: r).length, elem, 1, false, true, false⟩))
        | _ => none
      | _ => none
    | _, _, _ => none
  | _ => none

def repA (l : List UInt8) : Nat → List UInt8
  | 0 => []
  | c + 1 => l ++ repA l c
/-- Two strings, of which one may be an atom, one behind the other. -/
def catS (a b : Value) : Option Value :=
  match a, b with
  | .string s, .string t => if s.size + t.size < 1099511627776 then some (.string (s ++ t)) else none
  | a, b => symLook E (.sbin .add) a b
def joinR (sep : Value) (acc : Value) : List Value → Option Value
  | [] => some acc
  | e :: r => match catS E acc sep with
    | some a => match catS E a e with
      | some b => joinR sep b r
      | none => none
    | none => none
/-- strings.Join of strings of which some are atoms; the answer's length is known. -/
def joinSA (H : Heap) (args : List Value) : Option Value :=
  match args with
  | [.slice (some ⟨v, o, _⟩) l c, sep] => match Nat.ble l c && Nat.ble l 1048576, rdCells H v o l with
    | true, some (e :: e2 :: r) => match joinR E sep e (e2 :: r) with
      | some (.chan a) => match symLook E .slen (.chan a) (.int .i64 0) with
        | some (.int _ n) => if n < 1099511627776 then some (.chan a) else none
        | _ => none
      | _ => none
    | _, _ => none
  | _ => none

/-- slices.Sorted over maps.Keys of a map with one entry, whose key is an atom that stands for a string. -/
def sorted1A (H : Heap) (elem : TypeId) (clos : List FuncId) (args : List Value) : Option (Value × Heap) :=
  match args with
  | [.func (.func f) first captured] =>
    match clos.contains f, first.toList, captured.toList with
    | true, [], [.pointer (some ⟨v, 0, none⟩)] =>
      match H.row v with
      | some r => match r.ro || r.opn, r.cs with
        | false, .map (some rm) :: _ => match H.get rm with
          | some (.map [e] clock) => match e.key, Nat.blt e.born clock with
            | .chan (some a), true => match symLook E .atoi (.chan (some a)) (.int .i64 0) with
              | some _ => some (.slice (some ⟨H.next, 0, some 1⟩) 1 1, H.add (.row ⟨[.chan (some a)], 1, elem, 1, false, true, false⟩))
              | none => none
            | _, _ => none
          | _ => none
        | _, _ => none
      | none => none
    | _, _, _ => none
  | _ => none

def primA (k : PrimK) (args : List Value) (H : Heap) : Option (Value × Heap) :=
  match k with
  | .insert T => insertSA E H T args
  | .sortedKeys e clos => sortedKeysA H e clos args
  | .sortedInts e clos => sortedIntsA H e clos args
  | .memo v => match args with
    | [] => some (v, H)
    | _ => none
  | .itoa => match args with
    | [.int .i64 n] => if 0 ≤ n ∧ n < 10 then some (.string ⟨#[UInt8.ofNat (48 + n.toNat)]⟩, H) else none
    | [x] => (symLook E .itoa x (.int .i64 0)).map fun r => (r, H)
    | _ => none
  | .rep => match args with
    | [.string s, .int .i64 n] => if 0 ≤ n ∧ n < 64 ∧ s.size < 64 then some (.string ⟨(repA s.data.toList n.toNat).toArray⟩, H) else none
    | [x, y] => (symLook E .rep x y).map fun r => (r, H)
    | _ => none
  | .join => (joinSA E H args).map fun r => (r, H)
  | .split e => match args with
    | [x, y] => match symLook E .cnt x y with
      | some (.int _ n) => if 0 ≤ n ∧ n < 64 then some (.slice (some ⟨H.next, 0, none⟩) n.toNat n.toNat, H.add (.row ⟨(List.range n.toNat).map fun i => (symLook E (.piece i) x y).getD (.chan none), n.toNat, e, 1, false, false, false⟩)) else none
      | _ => none
    | _ => none
  | .atoi => match args with
    | [x] => (symLook E .atoi x (.int .i64 0)).map fun r => (.tuple #[r, .chan none], H)
    | _ => none
  | .atoi2 te => match args with
    | [x] => match symLook E .atoi x (.int .i64 0), symLook E .aerr x (.int .i64 0) with
      | some r, some (.bool true) => some (.tuple #[r, .iface te (.chan none)], H)
      | some r, some (.bool false) => some (.tuple #[r, .nilIface], H)
      | _, _ => none
    | _ => none
  | .sorted1 e clos => match sorted1A E H e clos args with
    | some r => some r
    | none => sortedKeysA H e clos args
  | .frontX => match args with
    | [x] => match symLook E .atoi x (.int .i64 0) with
      | some _ => match symLook E .sto x (.int .i64 1) with
        | some (.string b) => match b.data.toList with
          | [c] => match Nat.beq c.toNat 120 with
            | true => some (.int .i64 0, H)
            | false => none
          | _ => none
        | _ => none
      | none => none
    | _ => none

inductive AR where
  | val (v : Value) (H : Heap)
  | call (f : FuncId) (args : List Value)

def callV (ρ : Operand → Value) (H : Heap) (f : Value) (args : List Value) : Option AR :=
  match f with
  | .func (.func f) first captured =>
    let all := first.toList ++ args ++ captured.toList
    match E.ext.get f with
    | some k => (extA E k H all).map fun (v, H') => .val v H'
    | none => some (.call f all)
  | _ => none

def undefV : Value := .tuple #[]

def builtinA (H : Heap) (b : Builtin) (argTypes : Array TypeId) (type : TypeId) (args : List Value) : Option AR :=
  match b, args with
  | .append, [s, x] => do
    let t0 ← argTypes[0]?
    let t1 ← argTypes[1]?
    let (v, H') ← appendA E H t0 t1 s x
    some (.val v H')
  | .len, [x] => do
    let t ← argTypes[0]?
    match (← tyD E t) with
    | .array n _ => some (.val (.int .i64 n) H)
    | d => do
      let n ← lenA d H x
      some (.val (.int .i64 n) H)
  | .cap, [x] => do
    let t ← argTypes[0]?
    match (← tyD E t), x with
    | .slice _, .slice none _ n => some (.val (.int .i64 n) H)
    | .slice _, .slice (some ⟨_, _, none⟩) _ n => some (.val (.int .i64 n) H)
    | _, _ => none
  | .copy, [d, x] => do
    let t ← argTypes[0]?
    let (v, H') ← copyA E H t d x
    some (.val v H')
  | .clear, [x] => do
    let t ← argTypes[0]?
    let H' ← clearA E H t x
    some (.val undefV H')
  | .delete, [m, k] => do
    let t ← argTypes[0]?
    let H' ← deleteA E H t m k
    some (.val undefV H')
  | .min, x :: r => (minMaxA false x r).map fun v => .val v H
  | .max, x :: r => (minMaxA true x r).map fun v => .val v H
  | .unsafeSliceData, [.slice none _ _] => some (.val (.pointer none) H)
  | .unsafeSliceData, [.slice (some ⟨v, o, _⟩) _ c] => if c ≠ 0 then some (.val (.pointer (some ⟨v, o, none⟩)) H) else none
  | .unsafeString, [.pointer none, .int _ 0] => (argTypes[0]?).map fun _ => .val (.string .empty) H
  | .unsafeString, [.pointer (some ⟨v, o, none⟩), .int _ n] => do
    let t ← argTypes[0]?
    unsafeStrA t v o n
  | _, _ => none
where
  unsafeStrA (t : TypeId) (v o : Nat) (n : Int) : Option AR :=
    if 0 ≤ n ∧ n ≤ 2 ^ 44 then
      if n = 0 then some (.val (.string .empty) H) else
        match tyD E t with
        | some (.pointer e) => do
          let r ← H.row v
          match tyD E e with
          | some (.int .u8) =>
            if r.elem = e && !r.ro && tySize E e = some 1 then do
              let cs ← rdCells H v o n.toNat
              let bs ← bytesOfCells cs
              some (.val (.string ⟨bs.toArray⟩) (H.kill v))
            else none
          | _ => none
        | _ => none
    else none

def typeAssertA (x : Value) (asserted : TypeId) (ok : Bool) : Option Value := do
  match (← tyD E asserted), x with
  | .interface _, _ => none
  | _, .iface t v => if t = asserted then some (if ok then .tuple #[v, .bool true] else v) else none
  | _, _ => none

/-! operations of which an operand is an atom -/
def symConv (s d : TypeId) (x : Value) : Option Value :=
  match x with
  | .chan a => match tyD E s, tyD E d with
    | some (.int _), some (.int k) => symLook E (.conv k) (.chan a) (.int .i64 0)
    | _, _ => none
  | _ => none
def symIdx (t : TypeId) (x i : Value) : Option Value :=
  match x with
  | .chan a => match tyD E t with
    | some (.slice e) => match tySize E e with
      | some s => symLook E (.idx s) (.chan a) i
      | none => none
    | _ => none
  | _ => none
def symLen (b : Builtin) (ts : Array TypeId) (args : List Value) : Option Value :=
  match b, args with
  | .len, [.chan a] => match ts[0]? with
    | some t => match tyD E t with
      | some (.slice _) => symLook E .len (.chan a) (.int .i64 0)
      | some .string => symLook E .slen (.chan a) (.int .i64 0)
      | _ => none
    | none => none
  | .min, [x, y] => symLook E .mn x y
  | .max, [x, y] => symLook E .mx x y
  | _, _ => none
def symSl (t : TypeId) (x : Value) (lo hi mx : Option Value) : Option Value :=
  match x, lo, hi, mx with
  | .chan a, none, some h, none => match tyD E t with
    | some (.slice e) => match tySize E e with
      | some _ => symLook E .slTo (.chan a) h
      | none => none
    | some .string => symLook E .sto (.chan a) h
    | _ => none
  | .chan a, some l, none, none => match tyD E t with
    | some .string => symLook E .sfrom (.chan a) l
    | _ => none
  | _, _, _, _ => none
/-- Is a slice that is an atom nil? -/
def symNil (op : BinOp) (t : TypeId) (x y : Value) : Option Value :=
  match x, y with
  | .chan a, .slice none _ _ => match tyD E t, symLook E .nil (.chan a) (.int .i64 0) with
    | some (.slice _), some (.bool b) => match op with
      | .eql => some (.bool b)
      | .neq => some (.bool !b)
      | _ => none
    | _, _ => none
  | _, _ => none
def symBin (op : BinOp) (t : TypeId) (x y : Value) : Option Value :=
  match symLook E (.bin op) x y with
  | some v => some v
  | none => match symLook E (.sbin op) x y with
    | some v => some v
    | none => symNil E op t x y
def symA (ρ : Operand → Value) (o : Oper) : Option Value :=
  match o.op with
  | .binOp op t x y _ => symBin E op t (ρ x) (ρ y)
  | .convert s d x => symConv E s d (ρ x)
  | .indexAddr t x i => symIdx E t (ρ x) (ρ i)
  | .slice t x lo hi mx => symSl E t (ρ x) (lo.map ρ) (hi.map ρ) (mx.map ρ)
  | .call c => match c.callee with
    | .builtin b => symLen E b c.argTypes (c.args.toList.map ρ)
    | _ => none
  | _ => none

def aop0 (ρ : Operand → Value) (o : Oper) (H : Heap) : Option AR :=
  match o.op with
  | .move x | .assign x => some (.val (ρ x) H)
  | .pick c a b => match ρ c with
    | .bool t => some (.val (if t then ρ a else ρ b) H)
    | _ => none
  | .alloc e => do
    let z ← tyZero E e
    let (v, H') ← newRowA E H e z.cells.toList
    some (.val v H')
  | .box e x => match known (ρ x) with
    | true => do
      let (v, H') ← newRowA E H e (ρ x).cells.toList
      some (.val v H')
    | false => none
  | .build t parts => (buildA E t (parts.toList.map fun (i, x) => (i, ρ x))).map fun v => .val v H
  | .buildSlice t len parts => (buildSliceA E H t len (parts.toList.map fun (i, x) => (i, ρ x))).map fun (v, H') => .val v H'
  | .load t a => (loadA E H t (ρ a)).map fun v => .val v H
  | .store t a x => (storeA E H t (ρ a) (ρ x)).map fun H' => .val undefV H'
  | .nilCheck x => match ρ x with
    | .pointer (some a) => some (.val (.pointer (some a)) H)
    | _ => none
  | .binOp op t x y _ => (binA E H op t (isConstO x || isConstO y) (ρ x) (ρ y)).map fun v => .val v H
  | .unOp op _ x => (unA op (ρ x)).map fun v => .val v H
  | .convert s d x => (convA E H s d (ρ x)).map fun (v, H') => .val v H'
  | .makeInterface t x => match tyD E t with
    | some (.interface _) => none
    | some _ => some (.val (.iface t (ρ x)) H)
    | none => none
  | .makeFunc fn first captured => some (.val (.func fn (first.map ρ) (captured.map ρ)) H)
  | .makeMap _ none => some (.val (.map (some H.next)) (H.add (.map [] 0)))
  | .makeSlice t l c => (makeSliceA E H t (ρ l) (ρ c)).map fun (v, H') => .val v H'
  | .slice t x lo hi mx => (sliceAbs E t (ρ x) (lo.map ρ) (hi.map ρ) (mx.map ρ)).map fun v => .val v H
  | .fieldAddr t x f => (fieldAddrA E t (ρ x) f).map fun v => .val v H
  | .field t x f => (fieldA E t (ρ x) f).map fun v => .val v H
  | .indexAddr t x i => (indexAddrA E t (ρ x) (fixI E (ρ i))).map fun v => .val v H
  | .index t x i => (indexA E t (ρ x) (fixI E (ρ i))).map fun v => .val v H
  | .lookup t x k ok => (lookupA E H t (ρ x) (ρ k) ok).map fun v => .val v H
  | .mapUpdate t m k x | .insert t m k x => (mapUpdateA E H t (ρ m) (ρ k) (ρ x)).map fun H' => .val undefV H'
  | .range t x => (rangeA E H t (ρ x)).map fun (v, H') => .val v H'
  | .next it s => (nextA H (ρ it) s).map fun (v, H') => .val v H'
  | .entry it => (entryA H (ρ it)).map fun v => .val v H
  | .typeAssert x _ a ok => (typeAssertA E (ρ x) a ok).map fun v => .val v H
  | .extract t i => match ρ t with
    | .tuple vs => (vs[i]?).map fun v => .val v H
    | _ => none
  | .call c => match c.callee with
    | .builtin b => builtinA E H b c.argTypes o.type (c.args.toList.map ρ)
    | .value f => callV E ρ H (ρ f) (c.args.toList.map ρ)
    | .invoke _ _ => none
  | _ => none

def aop (ρ : Operand → Value) (o : Oper) (H : Heap) : Option AR :=
  match symA E ρ o with
  | some v => some (.val v H)
  | none => aop0 E ρ o H
end

/-! states, regions, code -/
structure St where
  n : Nat
  tm : PT Value
  H : Heap

def St.rd (σ : St) (t : Nat) : Value := match σ.tm.get t with | some v => v | none => undefV
def St.ev (σ : St) : Operand → Value
  | .tmp t => σ.rd t
  | .const v => v
  | .global g => .pointer (some ⟨g, 0, none⟩)
  | .func f => .func (.func f) #[] #[]
def St.wr (σ : St) (d : Option Nat) (v : Value) (H : Heap) : Option St :=
  match d with
  | none => some { σ with H := H }
  | some t => match Nat.blt t σ.n with
    | true => some { σ with tm := σ.tm.set t (some v), H := H }
    | false => none

inductive AEx where
  | normal
  | exit (id : Nat)
  | ret
  deriving DecidableEq

/-- Is the operation wanted? ('none': it cannot be told.) -/
def wantedA (ops : List Oper) (σ : St) (o : Oper) : Option Bool :=
  match o.guard with
  | none => some true
  | some (j, want) => match (ops[j]?).bind (·.dst) with
    | some d => match σ.rd d with
      | .bool b => some (b == want)
      | .tuple _ => some false
      | _ => none
    | none => some false

section
variable (E : Env) (callF : FuncId → List Value → Heap → Option (Value × Heap))

/-- One operation of a region. -/
def stepA (ops : List Oper) (o : Oper) (σ : St) : Option St :=
  match wantedA ops σ o with
  | none => none
  | some false => σ.wr o.dst undefV σ.H
  | some true =>
    match aop E σ.ev o σ.H with
    | some (.val v H') => σ.wr o.dst v H'
    | some (.call f args) =>
      match callF f args σ.H with
      | some (v, H') => σ.wr o.dst v H'
      | none => none
    | none => none

def regA (ops : List Oper) : List Oper → St → Option St
  | [], σ => some σ
  | o :: r, σ => match stepA E callF ops o σ with
    | some σ' => regA ops r σ'
    | none => none
end

/-- Does an operation only read? -/
def readsOnly (E : Env) (o : Oper) : Bool :=
  match o.op with
  | .move _ | .assign _ | .pick .. | .build .. | .load .. | .nilCheck _ | .binOp .. | .unOp .. | .makeInterface .. | .makeFunc .. | .slice ..
  | .fieldAddr .. | .field .. | .indexAddr .. | .index .. | .lookup .. | .entry _ | .typeAssert .. | .extract .. => true
  | .convert s d _ => match tyD E s, tyD E d with
    | some (.int _), some (.int _) | some .string, some .string | some (.slice _), some .string => true
    | _, _ => false
  | .call c => match c.callee with
    | .builtin b => match b with
      | .len | .cap | .min | .max | .unsafeSliceData => true
      | _ => false
    | _ => false
  | _ => false

/-! a region that draws its order: the text's order is run; whatever reads the heap must read the same wherever it may come to stand among the effects -/
def veqL (f : Value → Value → Bool) : List Value → List Value → Bool
  | [], [] => true
  | x :: l, y :: l' => match f x y with
    | true => veqL f l l'
    | false => false
  | _, _ => false
def beqO (a b : Option Addr) : Bool :=
  match a, b with
  | none, none => true
  | some ⟨v, o, none⟩, some ⟨v', o', none⟩ => Nat.beq v v' && Nat.beq o o'
  | some ⟨v, o, some k⟩, some ⟨v', o', some k'⟩ => Nat.beq v v' && Nat.beq o o' && Nat.beq k k'
  | _, _ => false
def eqBytes (a b : ByteArray) : Bool := a.data.toList == b.data.toList
def veq : Nat → Value → Value → Bool
  | 0 => fun _ _ => false
  | n + 1 => fun x y => match x, y with
    | .bool a, .bool b => a == b
    | .int j a, .int k b => j == k && a == b
    | .string a, .string b => eqBytes a b
    | .pointer a, .pointer b => beqO a b
    | .slice a l c, .slice b l' c' => beqO a b && Nat.beq l l' && Nat.beq c c'
    | .map none, .map none => true
    | .map (some a), .map (some b) => Nat.beq a b
    | .nilFunc, .nilFunc => true
    | .nilIface, .nilIface => true
    | .chan (some a), .chan (some b) => Nat.beq a b
    | .iface t v, .iface u w => Nat.beq t u && veq n v w
    | .agg a, .agg b => veqL (veq n) a.toList b.toList
    | .tuple a, .tuple b => veqL (veq n) a.toList b.toList
    | _, _ => false

section
variable (E : Env) (callF : FuncId → List Value → Heap → Option (Value × Heap))

/-- Is the operation's value free of the heap? -/
def heapFree (ρ : Operand → Value) (o : Oper) : Bool :=
  match o.op with
  | .move _ | .assign _ | .pick .. | .build .. | .nilCheck _ | .unOp .. | .makeInterface .. | .makeFunc .. | .slice ..
  | .fieldAddr .. | .field .. | .indexAddr .. | .index .. | .typeAssert .. | .extract .. => true
  | .binOp _ _ x _ _ => match ρ x with
    | .int _ _ | .string _ | .bool _ => true
    | _ => false
  | _ => false

/-- The operations that an operation comes behind, as bits. -/
def ancs : List Oper → List Nat → List Nat
  | [], acc => acc
  | o :: r, acc => ancs r (acc ++ [o.after.toList.foldl (fun m e => match Region.binds .any e with
      | true => m ||| (1 <<< e.on) ||| acc.getD e.on 0
      | false => m) 0])
def effs : List Oper → Nat → List Nat
  | [], _ => []
  | o :: r, i => match readsOnly E o with
    | true => effs r (i + 1)
    | false => i :: effs r (i + 1)

def ancB (as : List Nat) (i j : Nat) : Bool := (as.getD i 0).testBit j
def isBS (o : Oper) : Bool :=
  match o.op with
  | .buildSlice .. | .alloc _ | .makeSlice .. => true
  | _ => false
/-- Allocations that stand beside another effect without an order. -/
def freesOf (ops : List Oper) (as es : List Nat) : List Nat :=
  es.filter fun i => (match ops[i]? with | some o => isBS o | none => false) && es.any fun j => !(Nat.beq i j) && !ancB as i j && !ancB as j i
def items : List Oper → Nat → List (Nat × Oper)
  | [], _ => []
  | o :: r, i => (i, o) :: items r (i + 1)
/-- The canonical order: the text's, but that such allocations stand as late as they may. -/
def canon (as fr : List Nat) : List (Nat × Oper) → List (Nat × Oper) → List (Nat × Oper)
  | [], held => held
  | x :: r, held => match fr.contains x.1 with
    | true => canon as fr r (held ++ [x])
    | false => held.filter (fun y => ancB as x.1 y.1) ++ x :: canon as fr r (held.filter fun y => !ancB as x.1 y.1)
def planOf (ops : List Oper) (as fr : List Nat) : List (Nat × Oper) :=
  match fr with
  | [] => items ops 0
  | _ => canon as fr (items ops 0) []

def statesA (ops : List Oper) : List (Nat × Oper) → St → Option (List St)
  | [], σ => some [σ]
  | x :: r, σ => match stepA E callF ops x.2 σ with
    | some σ' => match statesA ops r σ' with
      | some l => some (σ :: l)
      | none => none
    | none => none

/-- The effects: place, number, free? -/
def epsOf (fr : List Nat) : List (Nat × Oper) → Nat → List (Nat × Nat × Bool)
  | [], _ => []
  | x :: r, q => match readsOnly E x.2 with
    | true => epsOf fr r (q + 1)
    | false => (q, x.1, fr.contains x.1) :: epsOf fr r (q + 1)

/-- May operation 'i' stand where the effects at places below 'p' are done, and no others? -/
def allowedA (as : List Nat) (eps : List (Nat × Nat × Bool)) (i p : Nat) : Bool :=
  eps.all fun e => (e.2.2 || !ancB as i e.2.1 || Nat.blt e.1 p) && (!ancB as e.2.1 i || Nat.ble p e.1)

def sameAtA (s : St) (o : Oper) (H : Heap) : Bool :=
  match aop E s.ev o s.H, aop E s.ev o H with
  | some (.val v _), some (.val v' _) => veq 20 v v'
  | _, _ => false

def plainRow (H : Heap) (v : Nat) : Bool :=
  match H.get v with
  | some (.row r) => r.cs.all plainC
  | _ => false

def chkA (ops : List Oper) (as fr : List Nat) (eps : List (Nat × Nat × Bool)) (cand : List Nat) (all : List St) : List (Nat × Oper) → List St → Bool
  | x :: r, s :: ss =>
    (match readsOnly E x.2 with
    | false => match fr.contains x.1 with
      | false => true
      | true => match wantedA ops s x.2 with
        | some true => (match aop E s.ev x.2 s.H with
          | some (.val _ H') => plainRow H' s.H.next
          | _ => false)
        | _ => true
    | true => match wantedA ops s x.2 with
      | some true => match heapFree s.ev x.2 with
        | true => true
        | false => cand.all fun p => match allowedA as eps x.1 p with
          | false => true
          | true => match all[p]? with
            | some sp => sameAtA E s x.2 sp.H
            | none => false
      | _ => true) && chkA ops as fr eps cand all r ss
  | _, _ => true

def lastA : List St → Option St
  | [] => none
  | [s] => some s
  | _ :: l => lastA l

def drawB (ops : List Oper) (as fr : List Nat) (its : List (Nat × Oper)) (eps : List (Nat × Nat × Bool)) (σ : St) : Option St :=
  match statesA E callF ops its σ with
  | none => none
  | some ss => match chkA E ops as fr eps (eps.map (·.1) ++ [its.length]) ss its ss with
    | true => lastA ss
    | false => none

def drawA (ops : List Oper) (σ : St) : Option St :=
  match effs E ops 0 with
  | [] => regA E callF ops ops σ
  | es => drawB E callF ops (ancs ops []) (freesOf ops (ancs ops []) es) (planOf ops (ancs ops []) (freesOf ops (ancs ops []) es))
      (epsOf E (freesOf ops (ancs ops []) es) (planOf ops (ancs ops []) (freesOf ops (ancs ops []) es)) 0) σ
end

/-- The static side of it: operations that meet in a slot, and effects among each other, are ordered by edges. -/
def pairOk (E : Env) (ops : Array Oper) (as fr : List Nat) (x y : Nat × Oper) : Bool :=
  ancB as x.1 y.1 || (x.2.apart ops y.2 && (readsOnly E x.2 || readsOnly E y.2 || fr.contains x.1))
def allOk (E : Env) (ops : Array Oper) (as fr : List Nat) : List (Nat × Oper) → List (Nat × Oper) → Bool
  | _, [] => true
  | done, x :: r =>
    (x.2.after.toList.all fun e => !Region.binds .any e || done.any fun y => Nat.beq y.1 e.on) &&
    (done.all fun y => !Nat.beq y.1 x.1 && pairOk E ops as fr x y) &&
    allOk E ops as fr (done ++ [x]) r
def lookOk (E : Env) (ops : Array Oper) (as fr : List Nat) : List (Nat × Oper) → List (Nat × Oper) → Bool
  | _, [] => true
  | done, x :: r =>
    (match fr.contains x.1 with
    | false => true
    | true => r.all fun z => z.2.apart ops x.2 || done.all fun y => readsOnly E y.2 || ancB as z.1 y.1) &&
    lookOk E ops as fr (done ++ [x]) r
def drawOk (E : Env) (ops : Array Oper) : Bool :=
  let l := ops.toList
  let as := ancs l []
  let fr := freesOf l as (effs E l 0)
  let its := planOf l as fr
  Nat.beq its.length l.length && ((List.range l.length).all fun i => its.any fun x => Nat.beq x.1 i) && allOk E ops as fr [] its && lookOk E ops as fr [] its

/-- What a function's results are: the slots, or cells that are read. -/
def resA (E : Env) (σ : St) : ResultVar → Option Value
  | .tmp t => some (σ.rd t)
  | .cell a t => loadA E σ.H t (σ.rd a)
def resL (E : Env) (σ : St) : List ResultVar → Option (List Value)
  | [] => some []
  | x :: l => match resA E σ x with
    | some v => match resL E σ l with
      | some vs => some (v :: vs)
      | none => none
    | none => none
def resultsA (E : Env) (fn : Func) (σ : St) : Option Value :=
  match resL E σ fn.results.toList with
  | some [v] => some v
  | some vs => some (.tuple vs.toArray)
  | none => none

def argTm (args : List Value) : PT Value := PT.ofListFrom PT.room 0 args

def callE (E : Env) (ex : Code → St → Option (AEx × St)) (f : FuncId) (args : List Value) (H : Heap) : Option (Value × Heap) :=
  match E.prim.get f with
  | some k => primA E k args H
  | none => match E.ft.get f with
    | none => none
    | some fn => match fn.body with
      | none => none
      | some c => match Nat.ble args.length fn.ntmps with
        | false => none
        | true => match ex c ⟨fn.ntmps, argTm args, H⟩ with
          | some (.normal, σ) => (resultsA E fn σ).map fun v => (v, σ.H)
          | some (.ret, σ) => (resultsA E fn σ).map fun v => (v, σ.H)
          | _ => none

def execC (E : Env) : Nat → Code → St → Option (AEx × St)
  | 0 => fun _ _ => none
  | n + 1 => fun c σ => match c with
    | .skip => some (.normal, σ)
    | .label _ => some (.normal, σ)
    | .region _ ops draw => match draw with
      | false => (regA E (callE E (execC E n)) ops.toList ops.toList σ).map fun σ' => (.normal, σ')
      | true => (drawA E (callE E (execC E n)) ops.toList σ).map fun σ' => (.normal, σ')
    | .seq a b => match execC E n a σ with
      | some (.normal, σ') => execC E n b σ'
      | r => r
    | .cond c a b => match σ.ev c with
      | .bool true => execC E n a σ
      | .bool false => execC E n b σ
      | _ => none
    | .block id b => match execC E n b σ with
      | some (.exit j, σ') => match Nat.beq j id with
        | true => some (.normal, σ')
        | false => some (.exit j, σ')
      | r => r
    | .loop b => match execC E n b σ with
      | some (.normal, σ') => execC E n (.loop b) σ'
      | r => r
    | .exit id => some (.exit id, σ)
    | .ret => some (.ret, σ)
    | _ => none
end
end Go.Vsx
