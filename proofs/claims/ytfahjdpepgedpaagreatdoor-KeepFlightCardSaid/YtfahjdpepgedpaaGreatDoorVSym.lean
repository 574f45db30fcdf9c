/- What the table of operations on atoms says, and how it is used. -/
import Derived.Test.YtfahjdpepgedpaaGreatDoorVRel
import Derived.Lib.ItoaNum
import Derived.Lib.Repeat
import Derived.Lib.Split
import Derived.Lib.AtoiAll
set_option linter.all false
namespace Go.Vsx
open Go Go.RowKit

/-- An operation on whole numbers; a shift's count may be of another kind. -/
def intOpX (op : BinOp) (k k' : IntKind) (a b : Int) : Option Value :=
  match op with
  | .shl => shiftA .shl k a b
  | .shr => shiftA .shr k a b
  | op => if k = k' then intOpA op k a b else none
theorem intOpX_of {op : BinOp} {k : IntKind} {a b : Int} {r : Value} (h : intOpA op k a b = some r) : intOpX op k k a b = some r := by
  cases op <;> first
    | (simp only [intOpA] at h; cases h; done)
    | (simp only [intOpX]; exact h)
    | (simp only [intOpX, if_pos rfl]; exact h)

/-- The number that strconv.Atoi gives beside its error. -/
def atoiV (l : List UInt8) : Int :=
  match Lib.atoiAll l with
  | .ok v => v
  | .syntax => 0
  | .range => Lib.atoiSat l

def SymHolds (m : Mu) : SOp → Value → Value → Value → Prop
  | .bin op, x, y, r => ∃ k k' a b r', VR m x (.int k a) ∧ VR m y (.int k' b) ∧ intOpX op k k' a b = some r' ∧ VR m r r'
  | .conv k, x, _, r => ∃ k0 n, VR m x (.int k0 n) ∧ VR m r (.int k (k.wrap n))
  | .len, x, _, r => ∃ a l c, VR m x (.slice a l c) ∧ VR m r (.int .i64 l)
  | .idx s, x, y, r => ∃ blk off l c k, ∃ i : Nat, VR m x (.slice (some ⟨blk, off, none⟩) l c) ∧ VR m y (.int k i) ∧ i < l ∧ VR m r (.pointer (some ⟨blk, off + i * s, none⟩))
  | .mn, x, y, r => ∃ k a b, VR m x (.int k a) ∧ VR m y (.int k b) ∧ VR m r (.int k (if b < a then b else a))
  | .mx, x, y, r => ∃ k a b, VR m x (.int k a) ∧ VR m y (.int k b) ∧ VR m r (.int k (if b > a then b else a))
  | .slTo, x, y, r => ∃ ad l c k, ∃ h : Nat, VR m x (.slice ad l c) ∧ VR m y (.int k h) ∧ h ≤ c ∧ (c = 0 ∨ ∃ blk off, ad = some ⟨blk, off, none⟩) ∧ VR m r (.slice ad h c)
  | .fix, x, _, r => ∃ k n, VR m x (.int k n) ∧ VR m r (.int k n)
  | .nil, x, _, r => ∃ ad l c, VR m x (.slice ad l c) ∧ VR m r (.bool ad.isNone)
  | .sbin op, x, y, r => ∃ s t r', VR m x (.string s) ∧ VR m y (.string t) ∧ strOpA op s t = some r' ∧ VR m r r'
  | .slen, x, _, r => ∃ s : ByteArray, VR m x (.string s) ∧ VR m r (.int .i64 s.size)
  | .snoc, x, y, r => ∃ (l : List UInt8) (b : UInt8), VR m x (.string ⟨l.toArray⟩) ∧ VR m y (.int .u8 b.toNat) ∧ VR m r (.string ⟨(l ++ [b]).toArray⟩)
  | .itoa, x, _, r => ∃ n : Int, VR m x (.int .i64 n) ∧ -9223372036854775808 ≤ n ∧ n ≤ 9223372036854775807 ∧ VR m r (.string ⟨(Lib.itoa n).toArray⟩)
  | .rep, x, y, r => ∃ (s : ByteArray) (n : Nat), VR m x (.string s) ∧ VR m y (.int .i64 (n : Int)) ∧ n < 1048576 ∧ s.size < 1048576 ∧ VR m r (.string ⟨(Lib.repeatL s.data.toList n).toArray⟩)
  | .cnt, x, y, r => ∃ s t : ByteArray, VR m x (.string s) ∧ VR m y (.string t) ∧ 1 ≤ t.size ∧ s.size < 1048576 ∧ VR m r (.int .i64 ((Lib.countB s t + 1 : Nat) : Int))
  | .piece i, x, y, r => ∃ s t q : ByteArray, VR m x (.string s) ∧ VR m y (.string t) ∧ (Lib.splitB t 0 (Lib.countB s t) s)[i]? = some q ∧ VR m r (.string q)
  | .atoi, x, _, r => ∃ s : ByteArray, VR m x (.string s) ∧ s.size < 1048576 ∧ VR m r (.int .i64 (atoiV s.data.toList))
  | .sfrom, x, y, r => ∃ (s : ByteArray) (k : IntKind) (n : Nat), VR m x (.string s) ∧ VR m y (.int k (n : Int)) ∧ n ≤ s.size ∧ VR m r (.string (s.extract n s.size))
  | .sto, x, y, r => ∃ (s : ByteArray) (k : IntKind) (n : Nat), VR m x (.string s) ∧ VR m y (.int k (n : Int)) ∧ n ≤ s.size ∧ VR m r (.string (s.extract 0 n))
  | .aerr, x, _, r => ∃ s : ByteArray, VR m x (.string s) ∧ VR m r (.bool (match Lib.atoiAll s.data.toList with | .ok _ => false | _ => true))
  | .scmp, x, y, r => ∃ s t : ByteArray, VR m x (.string s) ∧ VR m y (.string t) ∧ VR m r (.int .i64 (Lib.compareBytes s.data.toList t.data.toList))

theorem SymHolds.mono {m m' : Mu} (h : m.leV m') {op : SOp} {x y r : Value} (k : SymHolds m op x y r) : SymHolds m' op x y r := by
  cases op with
  | bin op => obtain ⟨k, k', a, b, r', h1, h2, h3, h4⟩ := k; exact ⟨k, k', a, b, r', h1.monoV h, h2.monoV h, h3, h4.monoV h⟩
  | conv k0 => obtain ⟨k, n, h1, h2⟩ := k; exact ⟨k, n, h1.monoV h, h2.monoV h⟩
  | len => obtain ⟨a, l, c, h1, h2⟩ := k; exact ⟨a, l, c, h1.monoV h, h2.monoV h⟩
  | idx s => obtain ⟨b, o, l, c, k, i, h1, h2, h3, h4⟩ := k; exact ⟨b, o, l, c, k, i, h1.monoV h, h2.monoV h, h3, h4.monoV h⟩
  | mn => obtain ⟨k, a, b, h1, h2, h3⟩ := k; exact ⟨k, a, b, h1.monoV h, h2.monoV h, h3.monoV h⟩
  | mx => obtain ⟨k, a, b, h1, h2, h3⟩ := k; exact ⟨k, a, b, h1.monoV h, h2.monoV h, h3.monoV h⟩
  | fix => obtain ⟨k, n, h1, h2⟩ := k; exact ⟨k, n, h1.monoV h, h2.monoV h⟩
  | nil => obtain ⟨ad, l, c, h1, h2⟩ := k; exact ⟨ad, l, c, h1.monoV h, h2.monoV h⟩
  | sbin op => obtain ⟨s, t, r', h1, h2, h3, h4⟩ := k; exact ⟨s, t, r', h1.monoV h, h2.monoV h, h3, h4.monoV h⟩
  | slen => obtain ⟨s, h1, h2⟩ := k; exact ⟨s, h1.monoV h, h2.monoV h⟩
  | snoc => obtain ⟨l, b, h1, h2, h3⟩ := k; exact ⟨l, b, h1.monoV h, h2.monoV h, h3.monoV h⟩
  | itoa => obtain ⟨n, h1, h2, h3, h4⟩ := k; exact ⟨n, h1.monoV h, h2, h3, h4.monoV h⟩
  | rep => obtain ⟨s, n, h1, h2, h3, h5, h4⟩ := k; exact ⟨s, n, h1.monoV h, h2.monoV h, h3, h5, h4.monoV h⟩
  | cnt => obtain ⟨s, t, h1, h2, h3, h4, h5⟩ := k; exact ⟨s, t, h1.monoV h, h2.monoV h, h3, h4, h5.monoV h⟩
  | piece i => obtain ⟨s, t, q, h1, h2, h3, h4⟩ := k; exact ⟨s, t, q, h1.monoV h, h2.monoV h, h3, h4.monoV h⟩
  | atoi => obtain ⟨s, h1, h2, h3⟩ := k; exact ⟨s, h1.monoV h, h2, h3.monoV h⟩
  | sfrom => obtain ⟨s, k1, n, h1, h2, h3, h4⟩ := k; exact ⟨s, k1, n, h1.monoV h, h2.monoV h, h3, h4.monoV h⟩
  | sto => obtain ⟨s, k1, n, h1, h2, h3, h4⟩ := k; exact ⟨s, k1, n, h1.monoV h, h2.monoV h, h3, h4.monoV h⟩
  | aerr => obtain ⟨s, h1, h2⟩ := k; exact ⟨s, h1.monoV h, h2.monoV h⟩
  | scmp => obtain ⟨s, t, h1, h2, h3⟩ := k; exact ⟨s, t, h1.monoV h, h2.monoV h, h3.monoV h⟩
  | slTo => obtain ⟨ad, l, c, k, i, h1, h2, h3, h5, h4⟩ := k; exact ⟨ad, l, c, k, i, h1.monoV h, h2.monoV h, h3, h5, h4.monoV h⟩

/-- The table is right. -/
def SymOk (E : Env) (m : Mu) : Prop := ∀ op x y r, symLook E op x y = some r → SymHolds m op x y r
theorem SymOk.mono {E : Env} {m m' : Mu} (h : SymOk E m) (k : m.leV m') : SymOk E m' := fun op x y r e => (h op x y r e).mono k

/-- A whole number or an atom. -/
def oneV : Value → Bool
  | .chan (some _) => true
  | .int _ _ => true
  | .string _ => true
  | _ => false

theorem VR.one {μ : Mu} {x a b : Value} (hx : oneV x = true) (h : VR μ x a) (k : VR μ x b) : a = b := by
  cases h with
  | int j n => cases k; rfl
  | str s => cases k; rfl
  | atom v y hy => cases k with | atom _ z hz => rw [hy] at hz; exact Option.some.inj hz
  | _ => simp [oneV] at hx

theorem svSame_eq {a b : Value} (h : svSame a b = true) : a = b ∧ oneV b = true := by
  unfold svSame at h
  split at h
  · simp only [Nat.beq_eq] at h; subst h; exact ⟨rfl, rfl⟩
  · simp only [Bool.and_eq_true, decide_eq_true_eq] at h; obtain ⟨rfl, rfl⟩ := h; exact ⟨rfl, rfl⟩
  · rename_i a b
    have e := Array.toList_inj.1 (of_decide_eq_true h)
    have e2 : a = b := by cases a; cases b; exact congrArg ByteArray.mk e
    exact ⟨congrArg Value.string e2, rfl⟩
  · cases h
theorem SOp.same_eq {a b : SOp} (h : a.same b = true) : a = b := by
  unfold SOp.same at h
  split at h
  · rw [of_decide_eq_true h]
  · rw [of_decide_eq_true h]
  · rfl
  · simp only [Nat.beq_eq] at h; rw [h]
  · rfl
  · rfl
  · rfl
  · rfl
  · rfl
  · rw [of_decide_eq_true h]
  · rfl
  · rfl
  · rfl
  · rfl
  · rfl
  · simp only [Nat.beq_eq] at h; rw [h]
  · rfl
  · rfl
  · rfl
  · rfl
  · rfl
  · cases h

theorem symFind_mem {op : SOp} {x y r : Value} : ∀ {l : List SE}, symFind op x y l = some r → oneV x = true ∧ oneV y = true ∧ (⟨op, x, y, r⟩ : SE) ∈ l
  | [], h => by cases h
  | e :: l, h => by
    simp only [symFind] at h
    split at h
    · rename_i hc
      cases h
      simp only [Bool.and_eq_true] at hc
      obtain ⟨⟨h1, h2⟩, h3⟩ := hc
      have e1 := SOp.same_eq h1
      obtain ⟨e2, o2⟩ := svSame_eq h2
      obtain ⟨e3, o3⟩ := svSame_eq h3
      refine ⟨o2, o3, ?_⟩
      rw [← e1, ← e2, ← e3]
      exact List.mem_cons_self
    · obtain ⟨a, b, c⟩ := symFind_mem h
      exact ⟨a, b, List.mem_cons_of_mem _ c⟩

theorem symLook_mem {E : Env} {op : SOp} {x y r : Value} (h : symLook E op x y = some r) : oneV x = true ∧ oneV y = true ∧ ∃ a l, E.sy.get a = some l ∧ (⟨op, x, y, r⟩ : SE) ∈ l := by
  unfold symLook at h
  split at h
  · cases h
  · split at h
    · cases h
    · rename_i l hl
      obtain ⟨a, b, c⟩ := symFind_mem h
      exact ⟨a, b, _, l, hl, c⟩

theorem SymOk.of_mem {E : Env} {m : Mu} (h : ∀ a l, E.sy.get a = some l → ∀ e ∈ l, SymHolds m e.op e.x e.y e.r) : SymOk E m := by
  intro op x y r hh
  obtain ⟨_, _, a, l, h1, h2⟩ := symLook_mem hh
  exact h a l h1 _ h2

theorem SymOk.none {E : Env} {m : Mu} (h : E.sy = .leaf) : SymOk E m := .of_mem fun a l e => by rw [h] at e; cases e

theorem symEq_ok {E : Env} {μ : Mu} (Y : SymOk E μ) {x y x' y' : Value} {b : Bool} (h : symEq E x y = some b) (hx : VR μ x x') (hy : VR μ y y') :
    ∃ k a c, x' = .int k a ∧ y' = .int k c ∧ (a == c) = b := by
  unfold symEq at h
  split at h
  case h_2 => cases h
  case h_1 c hc =>
    cases h
    obtain ⟨o1, o2, _⟩ := symLook_mem hc
    obtain ⟨k, k', a, d, r', h1, h2, h3, h4⟩ := Y _ _ _ _ hc
    simp only [intOpX] at h3
    split at h3
    case isFalse => cases h3
    case isTrue hk =>
    subst hk
    refine ⟨k, a, d, hx.one o1 h1, hy.one o2 h2, ?_⟩
    simp only [intOpA, Option.some.injEq] at h3
    subst h3
    cases h4
    rfl
theorem bytes_beq (s t : ByteArray) : (s == t) = (s.toList == t.toList) := by
  rw [ByteArray.toList_eq, ByteArray.toList_eq]
  cases s with | mk a => cases t with | mk b =>
  show (a == b) = (a.toList == b.toList)
  simp
theorem symEqS_ok {E : Env} {μ : Mu} (Y : SymOk E μ) {x y x' y' : Value} {b : Bool} (h : symEqS E x y = some b) (hx : VR μ x x') (hy : VR μ y y') :
    ∃ s t, x' = .string s ∧ y' = .string t ∧ (s == t) = b := by
  unfold symEqS at h
  split at h
  case h_2 => cases h
  case h_1 c hc =>
    cases h
    obtain ⟨o1, o2, _⟩ := symLook_mem hc
    obtain ⟨s, t, r', h1, h2, h3, h4⟩ := Y _ _ _ _ hc
    refine ⟨s, t, hx.one o1 h1, hy.one o2 h2, ?_⟩
    simp only [strOpA, Option.some.injEq] at h3
    subst h3
    cases h4
    exact bytes_beq s t
theorem fixI_ok {E : Env} {μ : Mu} (Y : SymOk E μ) {x x' : Value} (hx : VR μ x x') : VR μ (fixI E x) x' := by
  unfold fixI
  split
  · split
    · rename_i hr
      obtain ⟨o1, _, _⟩ := symLook_mem hr
      obtain ⟨k, n, h1, h2⟩ := Y _ _ _ _ hr
      rw [hx.one o1 h1]; exact h2
    · exact hx
  · exact hx

theorem snocA_ok {E : Env} {μ : Mu} (Y : SymOk E μ) : ∀ {cs cs' : List Value} {acc r : Value} {l : List UInt8}, snocA E acc cs = some r → VR μ acc (.string ⟨l.toArray⟩) → VL μ cs cs' →
    ∃ bs : List UInt8, cs' = bs.map (fun b => Value.int .u8 b.toNat) ∧ VR μ r (.string ⟨(l ++ bs).toArray⟩)
  | [], cs', acc, r, l, h, ha, hv => by
    have := hv.nil_inv; subst this
    simp only [snocA, Option.some.injEq] at h; subst h
    exact ⟨[], rfl, by simpa using ha⟩
  | c :: cs, cs', acc, r, l, h, ha, hv => by
    obtain ⟨c', cs2, rfl, hc, hv2⟩ := hv.cons_inv
    unfold snocA at h
    split at h
    case h_2 => cases h
    case h_1 a hl =>
    obtain ⟨o1, o2, _⟩ := symLook_mem hl
    obtain ⟨l2, b, h1, h2, h3⟩ := Y _ _ _ _ hl
    have e1 := ha.one o1 h1
    have e2 := hc.one o2 h2
    subst e2
    have e3 : l = l2 := by
      injection e1 with e1
      injection e1 with e1
      exact List.toArray_inj e1
    subst e3
    obtain ⟨bs, k1, k2⟩ := snocA_ok Y h h3 hv2
    exact ⟨b :: bs, by rw [k1]; rfl, by simpa using k2⟩
end Go.Vsx
