/- The executor once more, by raw recursors: the same function, quicker for the kernel. -/
import Derived.Test.YtfahjdpepgedpaaGreatDoorVEnv
import Derived.Test.YtfahjdpepgedpaaGreatDoorVFast1
set_option linter.all false
namespace Go.Vsx
open Go Go.RowKit
noncomputable section
set_option linter.unusedVariables false
set_option linter.unusedSimpArgs false

theorem k1_eq (r : Option Value) (H : Heap) : k1 r H = r.map fun v => .val v H := by cases r <;> rfl
theorem k2_eq (r : Option (Value × Heap)) : k2 r = r.map fun p => .val p.1 p.2 := by cases r <;> rfl
theorem k3_eq (r : Option Heap) : k3 r = r.map fun H => .val undefV H := by cases r <;> rfl
theorem symOr_eq (r : Option Value) (H : Heap) (a : Option AR) : symOr r H a = match r with
    | some v => some (.val v H)
    | none => a := by cases r <;> rfl

theorem opI_eq (E : Env) (H : Heap) (op : BinOp) (t : TypeId) (c : Bool) (k k' : IntKind) (a b : Int) : opI op k k' a b = binA E H op t c (.int k a) (.int k' b) := by
  cases op with
  | shl => exact (iShl_eq k k' a b).trans rfl
  | shr => exact (iShr_eq k k' a b).trans rfl
  | add => show sameK iAdd k k' a b = if k = k' then intOpA .add k a b else none; rw [sameK_eq]; simp only [iAdd, wrG_eq, addG_eq]; rfl
  | sub => show sameK iSub k k' a b = if k = k' then intOpA .sub k a b else none; rw [sameK_eq]; simp only [iSub, wrG_eq, subG_eq]; rfl
  | mul => show sameK iMul k k' a b = if k = k' then intOpA .mul k a b else none; rw [sameK_eq]; simp only [iMul, wrG_eq, mulG_eq]; rfl
  | quo => show sameK quoG k k' a b = if k = k' then intOpA .quo k a b else none; rw [sameK_eq, quoG_eq]
  | rem => show sameK remG k k' a b = if k = k' then intOpA .rem k a b else none; rw [sameK_eq, remG_eq]
  | and => show sameK iAnd k k' a b = if k = k' then intOpA .and k a b else none; rw [sameK_eq, iAnd_eq]
  | or => show sameK iOr k k' a b = if k = k' then intOpA .or k a b else none; rw [sameK_eq, iOr_eq]
  | xor => show sameK iXor k k' a b = if k = k' then intOpA .xor k a b else none; rw [sameK_eq, iXor_eq]
  | andNot => show sameK iAndNot k k' a b = if k = k' then intOpA .andNot k a b else none; rw [sameK_eq]; rfl
  | eql => show sameK iEql k k' a b = if k = k' then intOpA .eql k a b else none; rw [sameK_eq]; simp only [iEql, eqG_eq]; rfl
  | neq => show sameK iNeq k k' a b = if k = k' then intOpA .neq k a b else none; rw [sameK_eq]; simp only [iNeq, eqG_eq]; rfl
  | lss =>
    show sameK iLss k k' a b = if k = k' then intOpA .lss k a b else none
    rw [sameK_eq]; simp only [iLss, leG_eq, intOpA]
    have : (!decide (b ≤ a)) = decide (a < b) := by rw [Bool.eq_iff_iff]; simp
    rw [show (decide (b ≤ a)).not = (!decide (b ≤ a)) from rfl, this]
  | leq => show sameK iLeq k k' a b = if k = k' then intOpA .leq k a b else none; rw [sameK_eq]; simp only [iLeq, leG_eq]; rfl
  | gtr =>
    show sameK iGtr k k' a b = if k = k' then intOpA .gtr k a b else none
    rw [sameK_eq]; simp only [iGtr, leG_eq, intOpA]
    have : (!decide (a ≤ b)) = decide (a > b) := by rw [Bool.eq_iff_iff]; simp
    rw [show (decide (a ≤ b)).not = (!decide (a ≤ b)) from rfl, this]
  | geq => show sameK iGeq k k' a b = if k = k' then intOpA .geq k a b else none; rw [sameK_eq]; simp only [iGeq, leG_eq]; rfl

theorem binG_eq (E : Env) (op : BinOp) (t : TypeId) (c : Bool) (x y : Value) (H : Heap) : binG E op t c x y H = symOr (symBin E op t x y) H (k1 (binA E H op t c x y) H) := by
  cases x with
  | int k a => cases y with
    | int k' b =>
      show k1 (opI op k k' a b) H = symOr none H _
      rw [opI_eq E H op t c]; rfl
    | _ => rfl
  | _ => rfl

theorem loadG_eq (E : Env) (t : TypeId) (x : Value) (H : Heap) : loadG E t x H = k1 (loadA E H t x) H := by
  unfold loadG
  rw [vPtr_eq]
  split
  · rename_i v o
    unfold loadA
    cases hi : E.tt.get t with
    | none => rfl
    | some i =>
      show loadR i v o H = _
      unfold loadR
      rw [rowG_eq]
      simp only [Option.bind_eq_bind, Option.bind_some]
      have ha := aggG_eq i.d
      cases hr : H.row v with
      | none =>
        show none = _
        simp only [rdCells, hr]
        split <;> rfl
      | some r =>
        show @Bool.rec (fun _ => TI → Nat → Nat → Heap → Row → Option AR) (fun i v o H r => k1 (nthG o r.cs) H) (fun i v o H r => k1 ((rdCells H v o i.size).map fun cs => .agg cs.toArray) H) (aggG i.d) i v o H r = _
        rw [ha]
        cases aggD i.d with
        | true =>
          show k1 ((rdCells H v o i.size).map fun cs => .agg cs.toArray) H = _
          cases rdCells H v o i.size <;> rfl
        | false => show k1 (nthG o r.cs) H = _; rw [nthG_eq]; rfl
  · rfl

theorem storeG_eq (E : Env) (t : TypeId) (a x : Value) (H : Heap) : storeG E t a x H = k3 (storeA E H t a x) := by
  unfold storeG
  rw [vPtr_eq]
  split
  · rename_i v o
    unfold storeA
    cases hi : E.tt.get t with
    | none => rfl
    | some i =>
      show @Bool.rec (fun _ => Nat → Nat → Value → Heap → Option AR) (fun _ _ _ _ => none) (fun v o x H => k3 (wrCells H v o (cellsL x))) (Bool.and (known x) (Nat.beq (cellsL x).length i.size)) v o x H = _
      have hc := cellsL_eq x
      have hl : (cellsL x).length = x.cells.size := by rw [hc]; simp
      rw [hl]
      simp only [Option.bind_eq_bind, Option.bind_some]
      cases h1 : known x with
      | false => rfl
      | true => cases h2 : Nat.beq x.cells.size i.size with
        | false => rfl
        | true => show k3 (wrCells H v o (cellsL x)) = _; rw [hc]; rfl
  · rfl

theorem fldG_eq (E : Env) (t : TypeId) (f : Nat) : (fldG E t f).map (fun p => (p.1.offset, p.2)) = fieldOf E t f := by
  unfold fldG fieldOf tyD
  cases E.tt.get t with
  | none => rfl
  | some i =>
    show Option.map _ (dStr (R := Env → Nat → Option (Field × TI)) i.d _ _ E f) = _
    rw [dStr_eq]
    simp only [Option.map_some, Option.bind_eq_bind, Option.bind_some]
    cases i.d with
    | struct fs =>
      simp only [nthG_eq, Array.getElem?_toList]
      cases fs[f]? with
      | none => rfl
      | some fd =>
        show Option.map _ (@Option.rec TI (fun _ => Field → Option (Field × TI)) (fun _ => none) (fun i fd => some (fd, i)) (E.tt.get fd.type) fd) = _
        simp only [Option.bind_some]
        cases E.tt.get fd.type <;> rfl
    | _ => rfl
theorem fieldAddrG_eq (E : Env) (t : TypeId) (x : Value) (f : Nat) (H : Heap) : fieldAddrG E t x f H = k1 (fieldAddrA E t x f) H := by
  unfold fieldAddrG fieldAddrA
  rw [← fldG_eq]
  cases fldG E t f with
  | none => rfl
  | some p =>
    obtain ⟨fd, i⟩ := p
    simp only [Option.map_some, Option.bind_eq_bind, Option.bind_some]
    cases hs : i.size with
    | zero => simp only [hs]; rfl
    | succ n =>
      simp only [hs]
      show vPtr (R := Field → Heap → Option AR) x (fun v o fd H => some (.val (.pointer (some ⟨v, Nat.add o fd.offset, none⟩)) H)) (fun _ _ => none) fd H = _
      rw [vPtr_eq]
      rw [if_neg (by omega)]
      cases x with
      | pointer a => rcases a with _ | ⟨b, o, _ | s⟩ <;> rfl
      | _ => rfl
theorem fieldG_eq (E : Env) (t : TypeId) (x : Value) (f : Nat) (H : Heap) : fieldG E t x f H = k1 (fieldA E t x f) H := by
  unfold fieldG fieldA
  rw [← fldG_eq]
  cases fldG E t f with
  | none => rfl
  | some p =>
    obtain ⟨fd, i⟩ := p
    simp only [Option.map_some, Option.bind_eq_bind, Option.bind_some]
    show vAgg (R := Field → TI → Heap → Option AR) x _ (fun _ _ _ => none) fd i H = _
    rw [vAgg_eq]
    cases x with
    | agg cs =>
      show k1 (@Bool.rec (fun _ => Option Value) (nthG fd.offset cs.toList) (partA i cs fd.offset) (aggG i.d)) H = k1 (partA i cs fd.offset) H
      rw [aggG_eq]
      cases ha : aggD i.d with
      | true => rfl
      | false =>
        show k1 (nthG fd.offset cs.toList) H = _
        rw [nthG_eq, Array.getElem?_toList]
        unfold partA
        rw [ha]; rfl
    | _ => rfl

theorem idxG_eq (E : Env) (t : TypeId) (x i : Value) (H : Heap) : idxG E t x i H = symOr (symIdx E t x i) H (k1 (indexAddrA E t x (fixI E i)) H) := by
  cases x with
  | slice a l c =>
    cases i with
    | int k n =>
      cases n with
      | negSucc n => rfl
      | ofNat n =>
        cases a with
        | none => rfl
        | some a =>
          obtain ⟨b, o, s⟩ := a
          show idxP E t b o l n H = symOr none H (k1 (indexAddrA E t (.slice (some ⟨b, o, s⟩) l c) (.int k (.ofNat n))) H)
          show _ = k1 (indexAddrA E t (.slice (some ⟨b, o, s⟩) l c) (.int k (.ofNat n))) H
          unfold idxP indexAddrA
          simp only [intOfV, Option.bind_eq_bind, Option.bind_some, tyD]
          cases E.tt.get t with
          | none => rfl
          | some i =>
            show dSlc (R := Env → Nat → Nat → Nat → Nat → Heap → Option AR) i.d _ (fun _ _ _ _ _ _ => none) E b o l n H = _
            rw [dSlc_eq]
            simp only [Option.map_some, Option.bind_some]
            cases i.d with
            | slice e =>
              simp only [tySize]
              cases E.tt.get e with
              | none => rfl
              | some j =>
                show @Bool.rec (fun _ => TI → Nat → Nat → Nat → Heap → Option AR) (fun _ _ _ _ _ => none) _ (Nat.ble (n + 1) l) j b o n H = _
                simp only [Option.map_some, Option.bind_some]
                cases hb : Nat.ble (n + 1) l with
                | true =>
                  have := Nat.le_of_ble_eq_true hb
                  rw [if_pos ⟨Int.natCast_nonneg _, by simp only [Int.ofNat_eq_natCast]; omega⟩]
                  rfl
                | false =>
                  have : ¬ n + 1 ≤ l := fun hh => by rw [Nat.ble_eq_true_of_le hh] at hb; cases hb
                  rw [if_neg (by simp only [Int.ofNat_eq_natCast]; omega)]
                  rfl
            | _ => rfl
    | _ => rfl
  | _ => rfl

theorem convG_eq (E : Env) (s d : TypeId) (x : Value) (H : Heap) : convG E s d x H = symOr (symConv E s d x) H (k2 (convA E H s d x)) := by
  cases x with
  | int k n =>
    show @Option.rec TI (fun _ => C2) (fun _ _ _ _ _ => none) _ (E.tt.get s) E s d (.int k n) H = symOr none H (k2 (convA E H s d (.int k n)))
    show _ = k2 (convA E H s d (.int k n))
    cases hs : E.tt.get s with
    | none => simp only [convA, tyD, hs]; rfl
    | some i =>
      show dInt (R := C2) i.d _ convS E s d (.int k n) H = _
      rw [dInt_eq]
      cases hd0 : i.d with
      | int k0 =>
        show @Option.rec TI (fun _ => C2) (fun _ _ _ _ _ => none) _ (E.tt.get d) E s d (.int k n) H = _
        cases hd : E.tt.get d with
        | none => simp only [convA, tyD, hs, hd]; rfl
        | some j =>
          show dInt (R := C2) j.d _ convS E s d (.int k n) H = _
          rw [dInt_eq]
          cases hj : j.d with
          | int k1 =>
            show some (AR.val (.int k1 (wrG k1 n)) H) = _
            rw [wrG_eq]
            simp only [convA, tyD, hs, hd, Option.map_some, hd0, hj]
            rfl
          | _ => rfl
      | _ => rfl
  | _ => rfl

theorem lenG_eq (E : Env) (ts : Array TypeId) (x : Value) (ty : TypeId) (H : Heap) : lenG E ts x ty H = symOr (symLen E .len ts [x]) H (builtinA E H .len ts ty [x]) := by
  cases x with
  | slice a l c =>
    show @Option.rec TypeId (fun _ => Env → Array TypeId → Value → TypeId → Nat → Heap → Option AR) (fun _ _ _ _ _ _ => none) _ (nthG 0 ts.toList) E ts (.slice a l c) ty l H = symOr none H _
    show _ = builtinA E H .len ts ty [.slice a l c]
    have h0 : nthG 0 ts.toList = ts[0]? := by rw [nthG_eq, Array.getElem?_toList]
    rw [h0]
    cases ht : ts[0]? with
    | none => simp only [builtinA, ht]; rfl
    | some t =>
      show @Option.rec TI (fun _ => Env → Array TypeId → Value → TypeId → Nat → Heap → Option AR) (fun _ _ _ _ _ _ => none) _ (E.tt.get t) E ts (.slice a l c) ty l H = _
      cases hi : E.tt.get t with
      | none => simp only [builtinA, ht, tyD, Option.bind_eq_bind, Option.bind_some, hi, Option.map_none]; rfl
      | some i =>
        show dSlc (R := Env → Array TypeId → Value → TypeId → Nat → Heap → Option AR) i.d _ _ E ts (.slice a l c) ty l H = _
        rw [dSlc_eq]
        cases hd : i.d with
        | slice e =>
          simp only [builtinA, ht, tyD, hi, Option.map_some, hd, Option.bind_eq_bind, Option.bind_some, lenA]
        | _ => rfl
  | _ => rfl
theorem appG_eq (E : Env) (ts : Array TypeId) (args : List Value) (ty : TypeId) (H : Heap) : appG E ts args ty H = symOr (symLen E .append ts args) H (builtinA E H .append ts ty args) := by
  show _ = builtinA E H .append ts ty args
  rcases args with _ | ⟨s, _ | ⟨x, _ | ⟨y, r⟩⟩⟩
  · rfl
  · rfl
  · have h0 : nthG 0 ts.toList = ts[0]? := by rw [nthG_eq, Array.getElem?_toList]
    have h1 : nthG 1 ts.toList = ts[1]? := by rw [nthG_eq, Array.getElem?_toList]
    show @Option.rec TypeId (fun _ => Value → Value → Env → Array TypeId → Heap → Option AR) (fun _ _ _ _ _ => none) _ (nthG 0 ts.toList) s x E ts H = _
    rw [h0]
    cases ht : ts[0]? with
    | none => simp only [builtinA, ht]; rfl
    | some t0 =>
      show @Option.rec TypeId (fun _ => TypeId → Value → Value → Env → Heap → Option AR) (fun _ _ _ _ _ => none) _ (nthG 1 ts.toList) t0 s x E H = _
      rw [h1]
      cases ht1 : ts[1]? with
      | none => simp only [builtinA, ht, ht1]; rfl
      | some t1 =>
        show k2 (appendA E H t0 t1 s x) = _
        simp only [builtinA, ht, ht1, Option.bind_eq_bind, Option.bind_some]
        cases appendA E H t0 t1 s x <;> rfl
  · rfl
theorem bltG_eq (b : Builtin) (E : Env) (ts : Array TypeId) (args : List Value) (ty : TypeId) (H : Heap) : bltG b E ts args ty H = symOr (symLen E b ts args) H (builtinA E H b ts ty args) := by
  cases b with
  | append => exact appG_eq E ts args ty H
  | len =>
    rcases args with _ | ⟨x, _ | ⟨y, r⟩⟩
    · rfl
    · exact lenG_eq E ts x ty H
    · rfl
  | _ => rfl

theorem callVG_eq (E : Env) (ρ : Operand → Value) (v : Value) (args : List Value) (H : Heap) : callVG E v args H = callV E ρ H v args := by
  cases v with
  | func fn a b =>
    cases fn with
    | func f =>
      show @Option.rec ExtK (fun _ => FuncId → List Value → Env → Heap → Option AR) _ _ (E.ext.get f) f (a.toList ++ args ++ b.toList) E H = _
      unfold callV
      simp only []
      cases E.ext.get f with
      | none => rfl
      | some k => exact k2_eq _
    | _ => rfl
  | _ => rfl
theorem opG_eq (E : Env) (σ : St) (o : Oper) (H : Heap) : opG o.op E σ.tm o.type H = aop E σ.ev o H := by
  obtain ⟨dst, op, ty, ps, af, gd⟩ := o
  rw [← fEv_eq]
  generalize σ.tm = tm
  cases op with
  | move x => rfl
  | assign x => rfl
  | pick c a b =>
    show fPick (fEv tm c) (fEv tm a) (fEv tm b) H = aop0 E (fEv tm) ⟨dst, .pick c a b, ty, ps, af, gd⟩ H
    simp only [aop0]
    cases fEv tm c <;> first | rfl | (rename_i t; cases t <;> rfl)
  | alloc e =>
    show fAlloc E e H = aop0 E (fEv tm) ⟨dst, .alloc e, ty, ps, af, gd⟩ H
    simp only [aop0]
    unfold fAlloc
    cases tyZero E e with
    | none => rfl
    | some z =>
      show k2 (newRowA E H e z.cells.toList) = _
      rw [k2_eq]; simp only [Option.bind_eq_bind, Option.bind_some]; cases newRowA E H e z.cells.toList <;> rfl
  | box e x =>
    show @Bool.rec (fun _ => Option AR) none (k2 (newRowA E H e (cellsL (fEv tm x)))) (known (fEv tm x)) = aop0 E (fEv tm) ⟨dst, .box e x, ty, ps, af, gd⟩ H
    simp only [aop0, cellsL_eq]
    cases known (fEv tm x) with
    | false => rfl
    | true => show k2 _ = _; rw [k2_eq]; cases newRowA E H e (fEv tm x).cells.toList <;> rfl
  | build t parts => show k1 _ H = aop0 E (fEv tm) ⟨dst, .build t parts, ty, ps, af, gd⟩ H; rw [k1_eq]; rfl
  | buildSlice t len parts => show k2 _ = aop0 E (fEv tm) ⟨dst, .buildSlice t len parts, ty, ps, af, gd⟩ H; rw [k2_eq]; rfl
  | insert t m k x => show k3 _ = aop0 E (fEv tm) ⟨dst, .insert t m k x, ty, ps, af, gd⟩ H; rw [k3_eq]; rfl
  | mapUpdate t m k x => show k3 _ = aop0 E (fEv tm) ⟨dst, .mapUpdate t m k x, ty, ps, af, gd⟩ H; rw [k3_eq]; rfl
  | load t a => show loadG E t (fEv tm a) H = aop0 E (fEv tm) ⟨dst, .load t a, ty, ps, af, gd⟩ H; rw [loadG_eq, k1_eq]; rfl
  | store t a x => show storeG E t (fEv tm a) (fEv tm x) H = aop0 E (fEv tm) ⟨dst, .store t a x, ty, ps, af, gd⟩ H; rw [storeG_eq, k3_eq]; rfl
  | ready g => rfl
  | waits g => rfl
  | nilCheck x => rfl
  | binOp op t x y yt =>
    show binG E op t (Bool.or (isConstG x) (isConstG y)) (fEv tm x) (fEv tm y) H = _
    rw [binG_eq, symOr_eq, k1_eq, isConstG_eq, isConstG_eq]; rfl
  | unOp op t x => show k1 _ H = aop0 E (fEv tm) ⟨dst, .unOp op t x, ty, ps, af, gd⟩ H; rw [k1_eq]; rfl
  | convert s d x =>
    show convG E s d (fEv tm x) H = _
    rw [convG_eq, symOr_eq, k2_eq]; rfl
  | sliceToArrayPointer d x => rfl
  | makeInterface t x => rfl
  | makeFunc fn first captured => rfl
  | makeMap t r => cases r <;> rfl
  | makeChan t x => rfl
  | makeSlice t l c => show k2 _ = aop0 E (fEv tm) ⟨dst, .makeSlice t l c, ty, ps, af, gd⟩ H; rw [k2_eq]; rfl
  | slice t x lo hi mx =>
    show symOr _ H (k1 _ H) = _
    rw [symOr_eq, k1_eq]; rfl
  | fieldAddr t x f => show fieldAddrG E t (fEv tm x) f H = aop0 E (fEv tm) ⟨dst, .fieldAddr t x f, ty, ps, af, gd⟩ H; rw [fieldAddrG_eq, k1_eq]; rfl
  | field t x f => show fieldG E t (fEv tm x) f H = aop0 E (fEv tm) ⟨dst, .field t x f, ty, ps, af, gd⟩ H; rw [fieldG_eq, k1_eq]; rfl
  | indexAddr t x i =>
    show idxG E t (fEv tm x) (fEv tm i) H = _
    rw [idxG_eq, symOr_eq, k1_eq]; rfl
  | index t x i => show k1 _ H = aop0 E (fEv tm) ⟨dst, .index t x i, ty, ps, af, gd⟩ H; rw [k1_eq]; rfl
  | lookup t x k ok => show k1 _ H = aop0 E (fEv tm) ⟨dst, .lookup t x k ok, ty, ps, af, gd⟩ H; rw [k1_eq]; rfl
  | mapEntry t m k => rfl
  | entryStore t m s x => rfl
  | range t x => show k2 _ = aop0 E (fEv tm) ⟨dst, .range t x, ty, ps, af, gd⟩ H; rw [k2_eq]; rfl
  | next it s => show k2 _ = aop0 E (fEv tm) ⟨dst, .next it s, ty, ps, af, gd⟩ H; rw [k2_eq]; rfl
  | entry it => show k1 _ H = aop0 E (fEv tm) ⟨dst, .entry it, ty, ps, af, gd⟩ H; rw [k1_eq]; rfl
  | typeAssert x t a ok => show k1 _ H = aop0 E (fEv tm) ⟨dst, .typeAssert x t a ok, ty, ps, af, gd⟩ H; rw [k1_eq]; rfl
  | extract t i =>
    show vTup (R := Nat → Heap → Option AR) (fEv tm t) (fun vs i H => k1 (nthG i vs.toList) H) (fun _ _ => none) i H = aop0 E (fEv tm) ⟨dst, .extract t i, ty, ps, af, gd⟩ H
    rw [vTup_eq]
    simp only [aop0]
    cases fEv tm t with
    | tuple vs => show k1 (nthG i vs.toList) H = _; rw [nthG_eq, Array.getElem?_toList, k1_eq]
    | _ => rfl
  | call c =>
    obtain ⟨ce, as, ts⟩ := c
    cases ce with
    | value f =>
      show callVG E (fEv tm f) (mapG tm as.toList) H = callV E (fEv tm) H (fEv tm f) (as.toList.map (fEv tm))
      rw [mapG_eq, callVG_eq]
    | invoke a b => rfl
    | builtin b =>
      show bltG b E ts (mapG tm as.toList) ty H = _
      rw [mapG_eq, bltG_eq, symOr_eq]; rfl
  | go c => rfl
  | defer c => rfl
  | panic x => rfl
  | send a x => rfl
  | recv t x ok => rfl
  | select cs b => rfl

theorem fWr_eq (σ : St) (d : Option Nat) (v : Value) (H : Heap) : fWr σ.n σ.tm d v H = σ.wr d v H := by
  cases d with
  | none => rfl
  | some t =>
    show @Bool.rec (fun _ => Nat → Nat → PT Value → Value → Heap → Option St) (fun _ _ _ _ _ => none) _ (Nat.ble (t + 1) σ.n) t σ.n σ.tm v H = match Nat.ble (t + 1) σ.n with
      | true => some { σ with tm := σ.tm.set t (some v), H := H }
      | false => none
    cases Nat.ble (t + 1) σ.n <;> rfl

theorem argTm_eq (args : List Value) : argF args PT.room 0 = argTm args := argF_eq args _ _
theorem resLG_eq (E : Env) (σ : St) : ∀ l : List ResultVar, resLG E σ.tm σ.H l = resL E σ l
  | [] => rfl
  | x :: r => by
    have hx : resVG E σ.tm σ.H x = resA E σ x := by
      have hu : ∀ t, orUndef (σ.tm.get t) = σ.rd t := by
        intro t
        unfold St.rd orUndef
        cases σ.tm.get t <;> rfl
      cases x with
      | tmp t => show some (orUndef (σ.tm.get t)) = _; rw [hu]; rfl
      | cell a t => show loadA E σ.H t (orUndef (σ.tm.get a)) = _; rw [hu]; rfl
    show @Option.rec Value (fun _ => Option (List Value) → Option (List Value)) _ _ (resVG E σ.tm σ.H x) (resLG E σ.tm σ.H r) = _
    rw [hx, resLG_eq E σ r]
    simp only [resL]
    cases resA E σ x with
    | none => rfl
    | some v => cases resL E σ r <;> rfl
theorem resultsG_eq (E : Env) (fn : Func) (σ : St) : resultsG E fn σ = resultsA E fn σ := by
  show @Option.rec (List Value) (fun _ => Option Value) none (fun l => some (resFin l)) (resLG E σ.tm σ.H fn.results.toList) = _
  rw [resLG_eq]
  unfold resultsA
  cases resL E σ fn.results.toList with
  | none => rfl
  | some l => rcases l with _ | ⟨v, _ | ⟨w, r⟩⟩ <;> rfl
theorem outR_eq (E : Env) (fn : Func) (σ : St) : outR E fn σ = (resultsA E fn σ).map fun v => (v, σ.H) := by
  unfold outR
  rw [resultsG_eq]
  cases resultsA E fn σ <;> rfl
theorem outG_eq (E : Env) (fn : Func) (r : Option (AEx × St)) : outG E fn r = match r with
    | some (.normal, σ) => (resultsA E fn σ).map fun v => (v, σ.H)
    | some (.ret, σ) => (resultsA E fn σ).map fun v => (v, σ.H)
    | _ => none := by
  rcases r with _ | ⟨_ | j | _, σ⟩
  · rfl
  · exact outR_eq E fn σ
  · rfl
  · exact outR_eq E fn σ
theorem callX_eq (E : Env) (X : XF) : callX E X = callE E fun c σ => X c σ.n σ.tm σ.H := by
  funext f args H
  unfold callX callE
  cases E.prim.get f with
  | some k => rfl
  | none =>
    show @Option.rec Func (fun _ => Env → XF → List Value → Heap → Option (Value × Heap)) (fun _ _ _ _ => none) (fun fn E X args H => callB E X fn args H) (E.ft.get f) E X args H = _
    cases E.ft.get f with
    | none => rfl
    | some fn =>
      show callB E X fn args H = _
      unfold callB
      simp only []
      cases fn.body with
      | none => rfl
      | some c =>
        show @Bool.rec (fun _ => Code → Env → XF → Func → List Value → Heap → Option (Value × Heap)) (fun _ _ _ _ _ _ => none) _ (Nat.ble args.length fn.ntmps) c E X fn args H = _
        simp only []
        cases Nat.ble args.length fn.ntmps with
        | false => rfl
        | true =>
          show outG E fn (X c fn.ntmps (argF args PT.room 0) H) = _
          rw [argTm_eq, outG_eq]; rfl

section
variable {E : Env} {X : XF}
theorem fRun_eq (o : Oper) (σ : St) : fRun E X o.dst o.op o.type σ.n σ.tm σ.H = match aop E σ.ev o σ.H with
    | some (.val v H') => σ.wr o.dst v H'
    | some (.call f args) =>
      match callE E (fun c σ => X c σ.n σ.tm σ.H) f args σ.H with
      | some (v, H') => σ.wr o.dst v H'
      | none => none
    | none => none := by
  unfold fRun
  rw [opG_eq]
  cases aop E σ.ev o σ.H with
  | none => rfl
  | some r =>
    cases r with
    | val v H' => exact fWr_eq σ _ _ _
    | call f args =>
      show runK o.dst (callX E X f args σ.H) σ.n σ.tm = _
      rw [callX_eq]
      simp only []
      cases callE E (fun c σ => X c σ.n σ.tm σ.H) f args σ.H with
      | none => rfl
      | some p => exact fWr_eq σ _ _ _

theorem fGuard_eq (σ : St) (want : Bool) (d : Option Nat) : fGuard σ.tm want d = match d with
    | some d => match σ.rd d with
      | .bool b => some (b == want)
      | .tuple _ => some false
      | _ => none
    | none => some false := by
  cases d with
  | none => rfl
  | some d =>
    have : orUndef (σ.tm.get d) = σ.rd d := by
      unfold St.rd orUndef
      cases σ.tm.get d <;> rfl
    show guardV want (orUndef (σ.tm.get d)) = _
    rw [this]
    simp only []
    cases σ.rd d <;> rfl

theorem stepG_eq {ops : List Oper} {prev : List (Option Nat)} {i : Nat} {o : Oper} {σ : St} (hs : ∀ j, fSlot ops prev i j = (ops[j]?).bind (·.dst)) :
    stepG E X ops prev i o σ.n σ.tm σ.H = stepA E (callE E fun c σ => X c σ.n σ.tm σ.H) ops o σ := by
  have hr := fRun_eq (E := E) (X := X) o σ
  obtain ⟨dst, op, ty, ps, af, gd⟩ := o
  unfold stepA
  cases gd with
  | none => exact hr
  | some g =>
    obtain ⟨j, want⟩ := g
    show @Option.rec Bool (fun _ => Env → XF → Option Nat → Op → TypeId → Nat → PT Value → Heap → Option St) (fun _ _ _ _ _ _ _ _ => none)
      (fun b E X dst op ty n tm H => @Bool.rec (fun _ => Env → XF → Option Nat → Op → TypeId → Nat → PT Value → Heap → Option St) (fun _ _ dst _ _ n tm H => fWr n tm dst undefV H) fRun b E X dst op ty n tm H)
      (fGuard σ.tm want (fSlot ops prev i j)) E X dst op ty σ.n σ.tm σ.H = _
    have hw : fGuard σ.tm want ((ops[j]?).bind (·.dst)) = wantedA ops σ ⟨dst, op, ty, ps, af, some (j, want)⟩ := fGuard_eq σ want _
    rw [hs, hw]
    cases wantedA ops σ ⟨dst, op, ty, ps, af, some (j, want)⟩ with
    | none => rfl
    | some b =>
      cases b with
      | false => exact fWr_eq σ _ _ _
      | true => exact hr

theorem fSlot_eq {ops : List Oper} {i : Nat} (hi : i ≤ ops.length) (j : Nat) : fSlot ops ((ops.take i).map (·.dst)).reverse i j = (ops[j]?).bind (·.dst) := by
  unfold fSlot
  cases h : Nat.ble (Nat.succ j) i with
  | false => rfl
  | true =>
    have hj : j < i := Nat.le_of_ble_eq_true h
    show ((((ops.take i).map (·.dst)).reverse)[i - 1 - j]?).getD none = _
    have hl : ((ops.take i).map (·.dst)).length = i := by simp; omega
    rw [List.getElem?_reverse (by omega), hl]
    have : i - 1 - (i - 1 - j) = j := by omega
    rw [this, List.getElem?_map, List.getElem?_take, if_pos hj]
    have : j < ops.length := by omega
    simp [this]

theorem fReg_eq {ops : List Oper} : ∀ (l : List Oper) (i : Nat) (σ : St), ops.drop i = l → i ≤ ops.length →
    fReg l E X ops i ((ops.take i).map (·.dst)).reverse σ.n σ.tm σ.H = regA E (callE E fun c σ => X c σ.n σ.tm σ.H) ops l σ
  | [], i, σ, _, _ => rfl
  | o :: r, i, σ, hd, hi => by
    have hlt : i < ops.length := by
      rcases Nat.lt_or_ge i ops.length with h | h
      · exact h
      · rw [List.drop_eq_nil_of_le h] at hd; cases hd
    have ho : ops[i] = o := by
      rw [List.drop_eq_getElem_cons hlt] at hd; injection hd
    have hr : ops.drop (i + 1) = r := by
      rw [List.drop_eq_getElem_cons hlt] at hd; injection hd
    show regNext (fReg r) E X ops i ((ops.take i).map (·.dst)).reverse o.dst (stepG E X ops ((ops.take i).map (·.dst)).reverse i o σ.n σ.tm σ.H) = _
    rw [stepG_eq (fSlot_eq hi)]
    simp only [regA]
    cases stepA E (callE E fun c σ => X c σ.n σ.tm σ.H) ops o σ with
    | none => rfl
    | some σ' =>
      show fReg r E X ops (i + 1) (o.dst :: ((ops.take i).map (·.dst)).reverse) σ'.n σ'.tm σ'.H = regA E _ ops r σ'
      rw [← fReg_eq r (i + 1) σ' hr hlt]
      congr 1
      rw [List.take_succ_eq_append_getElem hlt, ho]
      simp

/-- The whole region. -/
theorem fReg_all (ops : List Oper) (σ : St) : fReg ops E X ops 0 [] σ.n σ.tm σ.H = regA E (callE E fun c σ => X c σ.n σ.tm σ.H) ops ops σ :=
  fReg_eq ops 0 σ rfl (Nat.zero_le _)
theorem hfG_eq (tm : PT Value) (o : Oper) : hfG o.op tm = heapFree (fEv tm) o := by
  obtain ⟨dst, op, ty, ps, af, gd⟩ := o
  cases op with
  | binOp op t x y yt =>
    show hfV (fEv tm x) = _
    simp only [heapFree]
    cases fEv tm x <;> rfl
  | _ => rfl
theorem idxK_inj (k k' : IntKind) : Nat.beq (idxK k) (idxK k') = (k == k') := by cases k <;> cases k' <;> rfl
theorem veqG_eq (a b : Value) : veqG a b = veq 20 a b := by
  cases a with
  | int k n => cases b with
    | int k' n' =>
      show @Bool.rec (fun _ => Bool) false (eqG n n') (Nat.beq (idxK k) (idxK k')) = (k == k' && n == n')
      rw [idxK_inj, eqG_eq]
      cases k == k' <;> rfl
    | _ => rfl
  | _ => rfl
theorem atG_eq (E : Env) (o : Oper) (s : St) (r : Option St) : atG E o.op o.type s.tm s.H r = match r with
    | some sp => sameAtA E s o sp.H
    | none => false := by
  cases r with
  | none => rfl
  | some sp =>
    show sameR (opG o.op E s.tm o.type s.H) (opG o.op E s.tm o.type sp.H) = sameAtA E s o sp.H
    rw [opG_eq, opG_eq]
    unfold sameAtA
    cases aop E s.ev o s.H with
    | none => rfl
    | some x => cases aop E s.ev o sp.H with
      | none => cases x <;> rfl
      | some y =>
        cases x with
        | call f a => cases y <;> rfl
        | val v H => cases y with
          | call f a => rfl
          | val v' H' => exact veqG_eq v v'
theorem wantG_eq (ops : List Oper) (s : St) (o : Oper) : wantG ops s.tm o = wantedA ops s o := by
  obtain ⟨dst, op, ty, ps, af, gd⟩ := o
  cases gd with
  | none => rfl
  | some g => obtain ⟨j, want⟩ := g; exact fGuard_eq s want _
theorem chkRd_eq (ops : List Oper) (as : List Nat) (eps : List (Nat × Nat × Bool)) (cand : List Nat) (all : List St) (i : Nat) (o : Oper) (s : St) :
    chkRd E ops as eps cand all i o s = match wantedA ops s o with
      | some true => match heapFree s.ev o with
        | true => true
        | false => cand.all fun p => match allowedA as eps i p with
          | false => true
          | true => match all[p]? with
            | some sp => sameAtA E s o sp.H
            | none => false
      | _ => true := by
  unfold chkRd
  rw [wantG_eq, hfG_eq, fEv_eq, lAll_eq]
  have hf : (fun p => @Bool.rec (fun _ => Bool) true (atG E o.op o.type s.tm s.H (nthG p all)) (allowedA as eps i p)) = fun p => match allowedA as eps i p with
      | false => true
      | true => match all[p]? with
        | some sp => sameAtA E s o sp.H
        | none => false := by
    funext p
    rw [atG_eq, nthG_eq]
    cases allowedA as eps i p <;> rfl
  rw [hf]
  cases wantedA ops s o with
  | none => rfl
  | some b => cases b with
    | false => rfl
    | true =>
      show @Bool.rec (fun _ => Bool) _ true (heapFree s.ev o) = _
      simp only []
      cases heapFree s.ev o <;> rfl
theorem statesG_eq (ops : List Oper) : ∀ (l : List (Nat × Oper)) (σ : St), statesG l E X ops σ.n σ.tm σ.H = statesA E (callE E fun c σ => X c σ.n σ.tm σ.H) ops l σ
  | [], σ => rfl
  | x :: r, σ => by
    show stNext (statesG r) E X ops ⟨σ.n, σ.tm, σ.H⟩ (stepG E X ops [] 0 x.2 σ.n σ.tm σ.H) = _
    rw [stepG_eq (fun j => rfl)]
    simp only [statesA]
    cases stepA E (callE E fun c σ => X c σ.n σ.tm σ.H) ops x.2 σ with
    | none => rfl
    | some σ' =>
      show consG σ (statesG r E X ops σ'.n σ'.tm σ'.H) = _
      rw [statesG_eq ops r σ']
      simp only []
      cases statesA E (callE E fun c σ => X c σ.n σ.tm σ.H) ops r σ' <;> rfl
theorem chkG_eq (ops : List Oper) (as fr : List Nat) (eps : List (Nat × Nat × Bool)) (cand : List Nat) (all : List St) :
    ∀ (its : List (Nat × Oper)) (l : List St), chkG E ops as fr eps cand all its l = chkA E ops as fr eps cand all its l
  | [], l => by cases l <;> rfl
  | x :: r, [] => rfl
  | x :: r, s :: ss => by
    show @Bool.rec (fun _ => Bool) false (chkG E ops as fr eps cand all r ss) (@Bool.rec (fun _ => Bool) (chkFr E ops fr x.1 x.2 s) (chkRd E ops as eps cand all x.1 x.2 s) (readsOnly E x.2)) = _
    rw [chkG_eq ops as fr eps cand all r ss, chkRd_eq]
    simp only [chkA]
    cases readsOnly E x.2 with
    | false =>
      show @Bool.rec (fun _ => Bool) false (chkA E ops as fr eps cand all r ss) (chkFr E ops fr x.1 x.2 s) = (chkFr E ops fr x.1 x.2 s && chkA E ops as fr eps cand all r ss)
      cases chkFr E ops fr x.1 x.2 s <;> rfl
    | true =>
      have hb : ∀ (A b : Bool), @Bool.rec (fun _ => Bool) false A b = (b && A) := by intro A b; cases b <;> rfl
      exact hb _ _
theorem lastG_eq : ∀ l : List St, lastG l = lastA l
  | [] => rfl
  | [s] => rfl
  | s :: t :: r => by
    show @Option.rec St (fun _ => Option St) (some s) (fun t => some t) (lastG (t :: r)) = lastA (t :: r)
    rw [lastG_eq (t :: r)]
    have : ∃ u, lastA (t :: r) = some u := by
      clear s
      induction r generalizing t with
      | nil => exact ⟨t, rfl⟩
      | cons u r ih => exact ih u
    obtain ⟨u, hu⟩ := this
    rw [hu]
theorem drawG_eq (ops : List Oper) (as fr : List Nat) (its : List (Nat × Oper)) (eps : List (Nat × Nat × Bool)) (σ : St) :
    drawG E X ops as fr its eps σ.n σ.tm σ.H = drawB E (callE E fun c σ => X c σ.n σ.tm σ.H) ops as fr its eps σ := by
  unfold drawG drawB
  rw [statesG_eq]
  cases statesA E (callE E fun c σ => X c σ.n σ.tm σ.H) ops its σ with
  | none => rfl
  | some ss =>
    simp only []
    rw [chkG_eq, lastG_eq]
    cases chkA E ops as fr eps (eps.map (·.1) ++ [its.length]) ss its ss <;> rfl
theorem fDraw_eq (ops : List Oper) (σ : St) : fDraw E X ops σ.n σ.tm σ.H = drawA E (callE E fun c σ => X c σ.n σ.tm σ.H) ops σ := by
  unfold fDraw drawA
  rw [fReg_all, drawG_eq]
  cases effs E ops 0 <;> rfl
end

theorem thenG_eq (X : XF) (b : Code) (r : CR) : thenG X b r = match r with
    | some (.normal, ⟨n, tm, H⟩) => X b n tm H
    | r => r := by
  rcases r with _ | ⟨_ | j | _, σ⟩ <;> rfl
theorem blockG_eq (id : Nat) (r : CR) : blockG id r = match r with
    | some (.exit j, σ') => match Nat.beq j id with
      | true => some (.normal, σ')
      | false => some (.exit j, σ')
    | r => r := by
  rcases r with _ | ⟨_ | j | _, σ⟩
  · rfl
  · rfl
  · show @Bool.rec (fun _ => Nat → St → CR) (fun j σ => some (.exit j, σ)) (fun _ σ => some (.normal, σ)) (Nat.beq j id) j σ = match Nat.beq j id with
      | true => some (.normal, σ)
      | false => some (.exit j, σ)
    cases Nat.beq j id <;> rfl
  · rfl

theorem fExec_succ (E : Env) (k : Nat) (c : Code) (n : Nat) (tm : PT Value) (H : Heap) : fExec E (k + 1) c n tm H = codeG c E (fExec E k) n tm H := rfl
theorem fExec_eq (E : Env) : ∀ (k : Nat) (c : Code) (σ : St), fExec E k c σ.n σ.tm σ.H = execC E k c σ
  | 0, _, _ => rfl
  | k + 1, c, σ => by
    have ih' := fExec_eq E k
    have ih : (fun c (σ : St) => fExec E k c σ.n σ.tm σ.H) = execC E k := by funext c σ; exact ih' c σ
    rw [fExec_succ]
    cases c with
    | skip => rfl
    | label l => rfl
    | region id ops draw =>
      cases draw with
      | false =>
        show norm (fReg ops.toList E (fExec E k) ops.toList 0 [] σ.n σ.tm σ.H) = _
        rw [fReg_all, ih]
        simp only [execC]
        cases regA E (callE E (execC E k)) ops.toList ops.toList σ <;> rfl
      | true =>
        show norm (fDraw E (fExec E k) ops.toList σ.n σ.tm σ.H) = _
        rw [fDraw_eq, ih]
        simp only [execC]
        cases drawA E (callE E (execC E k)) ops.toList σ <;> rfl
    | seq a b =>
      show thenG (fExec E k) b (fExec E k a σ.n σ.tm σ.H) = _
      rw [thenG_eq, ih']
      simp only [execC]
      cases execC E k a σ with
      | none => rfl
      | some r =>
        obtain ⟨x, σ'⟩ := r
        cases x with
        | normal => exact ih' b σ'
        | _ => rfl
    | cond c a b =>
      show vBool (R := Code → Code → XF → Nat → PT Value → Heap → CR) (fEv σ.tm c) _ _ a b (fExec E k) σ.n σ.tm σ.H = _
      rw [vBool_eq]
      simp only [execC, fEv_eq]
      cases σ.ev c with
      | bool t =>
        cases t with
        | true => exact ih' a σ
        | false => exact ih' b σ
      | _ => rfl
    | block id b =>
      show blockG id (fExec E k b σ.n σ.tm σ.H) = _
      rw [blockG_eq, ih']
      simp only [execC]
      rfl
    | loop b =>
      show thenG (fExec E k) (.loop b) (fExec E k b σ.n σ.tm σ.H) = _
      rw [thenG_eq, ih']
      simp only [execC]
      cases execC E k b σ with
      | none => rfl
      | some r =>
        obtain ⟨x, σ'⟩ := r
        cases x with
        | normal => exact ih' (.loop b) σ'
        | _ => rfl
    | exit id => rfl
    | ret => rfl
    | _ => rfl

/-- A call. -/
def fCall (E : Env) (k : Nat) : FuncId → List Value → Heap → Option (Value × Heap) := callX E (fExec E k)
theorem fCall_eq (E : Env) (k : Nat) : fCall E k = callE E (execC E k) := by
  have ih : (fun c (σ : St) => fExec E k c σ.n σ.tm σ.H) = execC E k := by funext c σ; exact fExec_eq E k c σ
  unfold fCall
  rw [callX_eq, ih]
end
end Go.Vsx
