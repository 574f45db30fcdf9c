/- The operations are right, 2: comparisons, numbers, strings, slices, conversions. -/
import Derived.Test.YtfahjdpepgedpaaGreatDoorVOps1
import Derived.Test.YtfahjdpepgedpaaGreatDoorVSym
import Derived.Laws.StructEq
set_option linter.all false
namespace Go.Vsx
open Go Go.RowKit

section
variable {P : Program} {E : Env} (T : TyOk P E) {B : Nat} {W0 w : World} {μ : Mu} {H H' : Heap}
include T

theorem eqFs_ok (f : TypeId → Value → Value → Option Bool) (D : Nat)
    (hf : ∀ t x y x' y' b, f t x y = some b → VR μ x x' → VR μ y y' → (Op.equalIn D t x' y').run P w = .ok b w) {xs ys xs' ys' : Array Value} (hx : VA μ xs xs') (hy : VA μ ys ys') :
    ∀ (l : List Field) (b : Bool), eqFs E f xs ys l = some b → (Op.eqFields D xs' ys' l).run P w = .ok b w
  | [], b, h => by simp [eqFs] at h; subst h; simp [Op.eqFields]
  | fd :: r, b, h => by
    simp only [eqFs, Option.bind_eq_bind] at h
    split at h
    case isTrue => cases h
    case isFalse hn =>
      simp only [Option.bind_eq_some_iff] at h
      obtain ⟨i, hi, a, ha, c, hc, q, hq, h⟩ := h
      obtain ⟨a', a1, a2⟩ := part_ok T (w := w) hi hx ha
      obtain ⟨c', c1, c2⟩ := part_ok T (w := w) hi hy hc
      have e := hf _ _ _ _ _ _ hq a2 c2
      cases q with
      | true =>
        simp only at h
        have ih := eqFs_ok f D hf hx hy r b h
        simp [Op.eqFields, hn, a1, c1, e, ih]
      | false =>
        simp only [Option.some.injEq] at h
        subst h
        simp [Op.eqFields, hn, a1, c1, e]

set_option maxHeartbeats 1000000 in
theorem eqA_ok (Y : SymOk E μ) : ∀ (d D : Nat) (t : TypeId) (x y x' y' : Value) (b : Bool), d ≤ D → eqA E d t x y = some b → VR μ x x' → VR μ y y' → (Op.equalIn D t x' y').run P w = .ok b w
  | 0, _, _, _, _, _, _, _, _, h, _, _ => by simp [eqA] at h
  | d + 1, D, t, x, y, x', y', b, hle, h, hx, hy => by
    obtain ⟨D, rfl⟩ : ∃ D', D = D' + 1 := ⟨D - 1, by omega⟩
    simp only [eqA] at h
    split at h
    case h_1 => cases h
    case h_2 td htd =>
    have hu := T.und htd
    split at h
    case h_1 => cases hx; cases hy; cases h; (simp only [Op.equalIn, Sem.run_bind, run_underlying hu, Result.andThen_ok]; rfl)
    case h_2 =>
      split at h
      case isFalse => cases h
      case isTrue hk => subst hk; cases hx; cases hy; cases h; simp only [Op.equalIn, Sem.run_bind, run_underlying hu, Result.andThen_ok, if_pos]; rfl
    case h_3 =>
      obtain ⟨k, a, c, rfl, rfl, rfl⟩ := symEq_ok Y h hx hy
      simp only [Op.equalIn, Sem.run_bind, run_underlying hu, Result.andThen_ok]; rfl
    case h_4 =>
      obtain ⟨k, a, c, rfl, rfl, rfl⟩ := symEq_ok Y h hx hy
      simp only [Op.equalIn, Sem.run_bind, run_underlying hu, Result.andThen_ok]; rfl
    case h_5 => cases hx; cases hy; cases h; (simp only [Op.equalIn, Sem.run_bind, run_underlying hu, Result.andThen_ok]; rfl)
    case h_6 => cases hx; cases hy; cases h; (simp only [Op.equalIn, Sem.run_bind, run_underlying hu, Result.andThen_ok]; rfl)
    case h_7 => cases hx; cases hy; cases h; (simp only [Op.equalIn, Sem.run_bind, run_underlying hu, Result.andThen_ok]; rfl)
    case h_8 => cases hx; cases hy; cases h; (simp only [Op.equalIn, Sem.run_bind, run_underlying hu, Result.andThen_ok]; rfl)
    case h_9 => cases hx; cases hy; cases h; (simp only [Op.equalIn, Sem.run_bind, run_underlying hu, Result.andThen_ok]; rfl)
    case h_10 => cases hx; cases hy; cases h; (simp only [Op.equalIn, Sem.run_bind, run_underlying hu, Result.andThen_ok]; rfl)
    case h_11 => cases hx; cases hy; cases h; (simp only [Op.equalIn, Sem.run_bind, run_underlying hu, Result.andThen_ok]; rfl)
    case h_12 tx vx ty vy =>
      cases hx with
      | iface _ _ vx' hx =>
      cases hy with
      | iface _ _ vy' hy =>
      split at h
      case isTrue hne => cases h; simp only [Op.equalIn, Sem.run_bind, run_underlying hu, Result.andThen_ok]; rw [if_pos hne]; rfl
      case isFalse heq =>
        have heq' : tx = ty := by simpa using heq
        subst heq'
        simp only [Option.bind_eq_bind, Option.bind_eq_some_iff] at h
        obtain ⟨i, hi, h⟩ := h
        split at h
        case isFalse => cases h
        case isTrue hc =>
          obtain ⟨info, a, _, _, _, c⟩ := T.info hi w
          have ih := eqA_ok Y d D tx vx vy vx' vy' b (by omega) h hx hy
          simp only [Op.equalIn, Sem.run_bind, run_underlying hu, Result.andThen_ok]
          rw [if_neg (by simp)]
          simp only [Sem.run_bind, a, Result.andThen_ok, c, hc, Bool.not_true, Bool.false_eq_true, if_false]
          exact ih
    case h_13 => cases hx; cases hy; cases h; (simp only [Op.equalIn, Sem.run_bind, run_underlying hu, Result.andThen_ok]; rfl)
    case h_14 => cases hx; cases hy <;> (cases h; (simp only [Op.equalIn, Sem.run_bind, run_underlying hu, Result.andThen_ok]; rfl))
    case h_15 => cases hx <;> (cases hy; cases h; (simp only [Op.equalIn, Sem.run_bind, run_underlying hu, Result.andThen_ok]; rfl))
    case h_16 => cases hx; cases hy; cases h; (simp only [Op.equalIn, Sem.run_bind, run_underlying hu, Result.andThen_ok]; rfl)
    case h_17 => cases hx; cases hy; cases h; (simp only [Op.equalIn, Sem.run_bind, run_underlying hu, Result.andThen_ok]; rfl)
    case h_18 => cases hx; cases hy; cases h; (simp only [Op.equalIn, Sem.run_bind, run_underlying hu, Result.andThen_ok]; rfl)
    case h_19 => cases hx; cases hy; cases h; (simp only [Op.equalIn, Sem.run_bind, run_underlying hu, Result.andThen_ok]; rfl)
    case h_20 => cases hx; cases hy; cases h; (simp only [Op.equalIn, Sem.run_bind, run_underlying hu, Result.andThen_ok]; rfl)
    case h_21 => cases hx; cases hy; cases h; (simp only [Op.equalIn, Sem.run_bind, run_underlying hu, Result.andThen_ok]; rfl)
    case h_22 fs xs ys =>
      split at h
      case h_2 => cases h
      case h_1 hs =>
        cases hx with
        | agg _ xs' s1 k1 =>
        cases hy with
        | agg _ ys' s2 k2 =>
        have e := eqFs_ok T (E := E) (P := P) (w := w) (eqA E d) D (fun t x y x' y' b h hx hy => eqA_ok Y d D t x y x' y' b (by omega) h hx hy) ⟨s1, k1⟩ ⟨s2, k2⟩ fs.toList b h
        have hst : P.stoodInHeld t = false := by
          simp only [tySth, Option.map_eq_some_iff] at hs
          obtain ⟨i, a, c⟩ := hs
          rw [T.sth t i a, c]
        have hf : P.fieldsOf t = fs := by simp [Program.fieldsOf, hu]
        rw [run_equalIn_struct w D t xs' ys' (by rw [hf]; exact hu) hst, hf, e]
    case h_23 => cases h

omit T in
theorem viewAt_row {b : Nat} {c : Array Value} {e : TypeId} {fr : Nat × Nat} (h : w.heap[b]? = some (.cells c e fr)) : (viewAt b).run P w = .ok none w := by
  simp [viewAt, World.shape?, h]

theorem eqPtr_ok (hr : HR B W0 μ H w) {t : TypeId} {x y x' y' : Value} {b : Bool} (h : eqPtr E H t x y = some b) (hx : VR μ x x') (hy : VR μ y y') :
    ∃ a a', x' = .pointer (some a) ∧ y' = .pointer (some a') ∧ (Op.equal t x' y').run P w = .ok b w := by
  unfold eqPtr at h
  split at h
  case h_2 => cases h
  case h_1 v o v' o' =>
  cases hx with
  | ptr _ _ p hp =>
  cases hy with
  | ptr _ _ p' hp' =>
  refine ⟨_, _, rfl, rfl, ?_⟩
  simp only [Option.bind_eq_bind, Option.bind_eq_some_iff] at h
  obtain ⟨d, hd, h⟩ := h
  split at h
  case h_2 => cases h
  case h_1 e =>
    simp only [Option.bind_eq_some_iff] at h
    obtain ⟨s, hs, h⟩ := h
    split at h
    case isTrue => cases h
    case isFalse hs0 =>
      have hu := T.und hd
      have hsz := T.run_size hs w
      have key : (sameAddr ⟨p.blk, p.off + o, none⟩ ⟨p'.blk, p'.off + o', none⟩).run P w = .ok b w := by
        split at h
        case isTrue hv =>
          subst hv
          rw [hp] at hp'; cases hp'
          cases h
          have : (({ block := p.blk, off := p.off + o, spot := none } : Addr) == { block := p.blk, off := p.off + o', spot := none }) = (o == o') := by
            by_cases e : o = o'
            · subst e; simp
            · have h1 : (o == o') = false := by simpa using e
              rw [h1]
              simp [e]
          simp [sameAddr, this]
        case isFalse hv =>
          simp only [Option.bind_eq_some_iff] at h
          obtain ⟨r, h1, r', h2, h⟩ := h
          split at h
          case isFalse => cases h
          case isTrue hc =>
            cases h
            simp only [Bool.and_eq_true, Bool.not_eq_true'] at hc
            obtain ⟨⟨⟨c1, c2⟩, c3⟩, c4⟩ := hc
            obtain ⟨q, c, e1, fr, a1, a2, a3, a4⟩ := hr.row h1
            obtain ⟨q', c', e1', fr', b1, b2, b3, b4⟩ := hr.row h2
            rw [hp] at a1; cases a1
            rw [hp'] at b1; cases b1
            have hne : p.blk ≠ p'.blk := fun he => hv (hr.inj v v' _ _ p p' (Heap.row_eq h1) (Heap.row_eq h2) (by simp [AObj.own, c1]) (by simp [AObj.own, c2]) hp hp' he)
            have f1 : fr = (0, 0) := (a4 c1).2.2.2.2.1 c3
            have f2 : fr' = (0, 0) := (b4 c2).2.2.2.2.1 c4
            subst f1; subst f2
            have hne' : (p.blk == p'.blk) = false := by simpa using hne
            have g1 : ∀ o, w.frozen? ⟨p.blk, o, none⟩ = false := fun o => by rw [frozen?_of_block a2]; simp
            have g2 : ∀ o, w.frozen? ⟨p'.blk, o, none⟩ = false := fun o => by rw [frozen?_of_block b2]; simp
            simp [sameAddr, hne', g1, noView, viewAt_row a2, viewAt_row b2, mayBeOne, stringish, World.shape?, a2, b2, g2]
      have all : ∀ D, (Op.equalIn (D + 1) t (.pointer (some ⟨p.blk, p.off + o, none⟩)) (.pointer (some ⟨p'.blk, p'.off + o', none⟩))).run P w = .ok b w := by
        intro D
        simp only [Op.equalIn, Sem.run_bind, run_underlying hu, Result.andThen_ok, hsz, Sem.run_ite]
        rw [if_pos hs0]
        exact key
      exact all 9999

omit T in
theorem run_eqGuard_off (op : BinOp) (t : TypeId) (x y : Operand) (a b : Value) (h1 : ∀ xs ys, a = .agg xs → b = .agg ys → False) (h2 : a = .nilIface → b = .nilIface → False) :
    (eqGuard op t x y a b).run P w = .ok () w := by
  have key : ∀ op', (op' = BinOp.eql ∨ op' = BinOp.neq) → (eqGuard op' t x y a b).run P w = .ok () w := by
    intro op' ho
    cases a with
    | agg xs => cases b <;> first | (exact (h1 _ _ rfl rfl).elim) | (rcases ho with rfl | rfl <;> rfl)
    | nilIface => cases b <;> first | (exact (h2 rfl rfl).elim) | (rcases ho with rfl | rfl <;> rfl)
    | _ => rcases ho with rfl | rfl <;> rfl
  cases op <;> first | rfl | exact key _ (.inl rfl) | exact key _ (.inr rfl)

theorem eqGuard_ok {op : BinOp} {t : TypeId} {x y : Operand} {u v u' v' : Value} (h : binA.guardA E t (isConstO x || isConstO y) u v = true) (hu : VR μ u u') (hv : VR μ v v') :
    (eqGuard op t x y u' v').run P w = .ok () w := by
  by_cases ha : ∃ xs, u' = .agg xs
  · obtain ⟨xs, rfl⟩ := ha
    by_cases hb : ∃ ys, v' = .agg ys
    · obtain ⟨ys, rfl⟩ := hb
      have h1 : ∃ z, u = .agg z := by cases hu with | agg a => exact ⟨_, rfl⟩ | _ => simp [binA.guardA] at h
      have h2 : ∃ z, v = .agg z := by cases hv with | agg a => exact ⟨_, rfl⟩ | _ => cases u <;> simp [binA.guardA] at h
      obtain ⟨z1, rfl⟩ := h1
      obtain ⟨z2, rfl⟩ := h2
      simp only [binA.guardA] at h
      split at h
      case h_2 => cases h
      case h_1 he =>
        simp only [tyEgt, Option.map_eq_some_iff] at he
        obtain ⟨i, a, c⟩ := he
        exact run_eqGuard_agg w op t x y _ _ (by rw [T.egt t i a, c])
    · exact run_eqGuard_off op t x y _ _ (fun _ ys _ k => hb ⟨ys, k⟩) (fun k => by cases k)
  · by_cases hn : u' = .nilIface ∧ v' = .nilIface
    · obtain ⟨rfl, rfl⟩ := hn
      have h1 : u = .nilIface := by cases hu with | nilI => rfl | _ => simp [binA.guardA] at h
      have h2 : v = .nilIface := by cases hv with | nilI => rfl | _ => cases u <;> simp [binA.guardA] at h
      subst h1; subst h2
      simp only [binA.guardA, Bool.or_eq_true] at h
      rcases h with h | h
      · cases x <;> simp [isConstO] at h
        rw [eqGuard_nil_constL]; rfl
      · cases y <;> simp [isConstO] at h
        rw [eqGuard_nil_constR]; rfl
    · exact run_eqGuard_off op t x y _ _ (fun xs _ k _ => ha ⟨xs, k⟩) (fun k1 k2 => hn ⟨k1, k2⟩)

omit T in
theorem intOp_ok {op : BinOp} {t : TypeId} {k : IntKind} {a b : Int} {v : Value} (h : intOpA op k a b = some v) : (binOp op t (.int k a) (.int k b)).run P w = .ok v w ∧ VR μ v v := by
  cases op <;> simp only [intOpA] at h
  case quo =>
    by_cases hb : b = 0
    · rw [if_pos hb] at h; cases h
    · rw [if_neg hb] at h; cases h; exact ⟨by simp [binOp, Op.intDiv, hb], .int _ _⟩
  case rem =>
    by_cases hb : b = 0
    · rw [if_pos hb] at h; cases h
    · rw [if_neg hb] at h; cases h; exact ⟨by simp [binOp, Op.intDiv, hb], .int _ _⟩
  all_goals first | (cases h; done) | skip
  all_goals cases h
  all_goals first
    | (rw [binOp_add]; exact ⟨rfl, .int _ _⟩)
    | (rw [binOp_sub]; exact ⟨rfl, .int _ _⟩)
    | (rw [binOp_mul]; exact ⟨rfl, .int _ _⟩)
    | (rw [binOp_and]; exact ⟨rfl, .int _ _⟩)
    | (rw [binOp_or]; exact ⟨rfl, .int _ _⟩)
    | (rw [binOp_xor]; exact ⟨rfl, .int _ _⟩)
    | (rw [binOp_andNot]; exact ⟨rfl, .int _ _⟩)
    | (rw [binOp_eql]; exact ⟨rfl, .bool _⟩)
    | (rw [binOp_neq]; exact ⟨rfl, .bool _⟩)
    | (rw [binOp_lss]; exact ⟨rfl, .bool _⟩)
    | (rw [binOp_leq]; exact ⟨rfl, .bool _⟩)
    | (rw [binOp_gtr]; exact ⟨rfl, .bool _⟩)
    | (rw [binOp_geq]; exact ⟨rfl, .bool _⟩)

omit T in
theorem shift_ok {op : BinOp} {t : TypeId} {k k' : IntKind} {a b : Int} {v : Value} (h : shiftA op k a b = some v) : (binOp op t (.int k a) (.int k' b)).run P w = .ok v w ∧ VR μ v v := by
  unfold shiftA at h
  split at h
  case isTrue => cases h
  case isFalse hb =>
    cases op <;> simp only at h <;> cases h
    all_goals (refine ⟨?_, .int _ _⟩; simp [binOp, Op.shift, hb])

omit T in
theorem strOp_ok {op : BinOp} {t : TypeId} {a b : ByteArray} {v : Value} (h : strOpA op a b = some v) : (binOp op t (.string a) (.string b)).run P w = .ok v w ∧ VR μ v v := by
  cases op <;> simp only [strOpA] at h <;> (try (cases h; done))
  case add =>
    split at h
    case isFalse => cases h
    case isTrue hs =>
      cases h
      refine ⟨?_, .str _⟩
      have : ¬ (((a.size + b.size : Nat) : Int) > 9223372036854775807) := by omega
      simp only [binOp, Op.stringOp, IntKind.max_i64, if_neg this]; rfl
  all_goals (cases h; refine ⟨?_, .bool _⟩; simp [binOp, Op.stringOp])

omit T in
theorem binOp_eql_run (t : TypeId) (x y : Value) (hx : ∀ k n, x ≠ .int k n) (hs : ∀ s, x ≠ .string s) (hf : ∀ k b, x ≠ .float k b) (hc : ∀ k a b, x ≠ .complex k a b) :
    (binOp .eql t x y).run P w = ((Op.equal t x y).run P w).andThen fun b w' => .ok (.bool b) w' := by
  unfold binOp
  split <;> first
    | (exact absurd rfl (hx _ _))
    | (exact absurd rfl (hs _))
    | (exact absurd rfl (hf _ _))
    | (exact absurd rfl (hc _ _ _))
    | (simp; done)
    | skip
  all_goals simp_all
omit T in
theorem binOp_neq_run (t : TypeId) (x y : Value) (hx : ∀ k n, x ≠ .int k n) (hs : ∀ s, x ≠ .string s) (hf : ∀ k b, x ≠ .float k b) (hc : ∀ k a b, x ≠ .complex k a b) :
    (binOp .neq t x y).run P w = ((Op.equal t x y).run P w).andThen fun b w' => .ok (.bool (!b)) w' := by
  unfold binOp
  split <;> first
    | (exact absurd rfl (hx _ _))
    | (exact absurd rfl (hs _))
    | (exact absurd rfl (hf _ _))
    | (exact absurd rfl (hc _ _ _))
    | (simp; done)
    | skip
  all_goals simp_all

omit T in
theorem two_run {op : BinOp} {t : TypeId} {x y : Operand} {u v r : Value} (h1 : (eqGuard op t x y u v).run P w = .ok () w) (h2 : (binOp op t u v).run P w = .ok r w) :
    (do eqGuard op t x y u v; binOp op t u v : Sem Value).run P w = .ok r w := by simp [h1, h2]

def numLike : Value → Bool
  | .int _ _ | .float _ _ | .complex _ _ _ | .string _ => true
  | _ => false

omit T in
theorem eqA_num {d : Nat} {t : TypeId} {x y : Value} {b : Bool} (h : eqA E d t x y = some b) (hx : numLike x = true) (hy : isAtomV y = false) :
    (∃ k a k' a', x = .int k a ∧ y = .int k' a') ∨ (∃ s s', x = .string s ∧ y = .string s') := by
  cases d with
  | zero => simp [eqA] at h
  | succ d =>
    simp only [eqA] at h
    split at h
    case h_1 => cases h
    case h_2 td htd =>
      split at h
      case h_2 => exact .inl ⟨_, _, _, _, rfl, rfl⟩
      case h_5 => exact .inr ⟨_, _, rfl, rfl⟩
      all_goals first | (simp [numLike] at hx; done) | (simp [isAtomV] at hy; done) | (cases h; done)

omit T in
theorem VR.num {u u' : Value} (h : VR μ u u') (ha : isAtomV u = false) : numLike u' = numLike u := by
  cases h <;> first | rfl | (simp [isAtomV] at ha)

omit T in
theorem guard_atom {t : TypeId} {c : Bool} {u v : Value} (h : binA.guardA E t c u v = true) : isAtomV u = false ∧ isAtomV v = false := by
  cases u <;> cases v <;> first | exact ⟨rfl, rfl⟩ | (simp [binA.guardA] at h)

omit T in
theorem ne_of_num {u : Value} (h : numLike u = false) : (∀ k n, u ≠ .int k n) ∧ (∀ s, u ≠ .string s) ∧ (∀ k b, u ≠ .float k b) ∧ (∀ k a b, u ≠ .complex k a b) :=
  ⟨fun k n e => by subst e; simp [numLike] at h, fun s e => by subst e; simp [numLike] at h, fun k b e => by subst e; simp [numLike] at h, fun k a b e => by subst e; simp [numLike] at h⟩

/-- An operation of two operands. -/
theorem bin_ok (Y : SymOk E μ) (hr : HR B W0 μ H w) {op : BinOp} {t : TypeId} {x y : Operand} {u v u' v' r : Value} (h : binA E H op t (isConstO x || isConstO y) u v = some r) (hu : VR μ u u') (hv : VR μ v v') :
    RdOk P μ w (do eqGuard op t x y u' v'; binOp op t u' v') r := by
  unfold binA at h
  split at h
  · cases hu; cases hv
    obtain ⟨a, b⟩ := shift_ok (P := P) (w := w) (μ := μ) (t := t) h
    exact ⟨r, two_run (by rw [eqGuard_shl]; rfl) a, b⟩
  · cases hu; cases hv
    obtain ⟨a, b⟩ := shift_ok (P := P) (w := w) (μ := μ) (t := t) h
    exact ⟨r, two_run (by rw [eqGuard_shr]; rfl) a, b⟩
  · split at h
    case isFalse => cases h
    case isTrue hk =>
      subst hk
      cases hu; cases hv
      obtain ⟨a, b⟩ := intOp_ok (P := P) (w := w) (μ := μ) (t := t) h
      exact ⟨r, two_run (by rw [eqGuard_at_int]; rfl) a, b⟩
  · cases hu; cases hv
    obtain ⟨a, b⟩ := strOp_ok (P := P) (w := w) (μ := μ) (t := t) h
    exact ⟨r, two_run (by rw [eqGuard_at_string]; rfl) a, b⟩
  · simp only [Option.map_eq_some_iff] at h
    obtain ⟨b, hb, rfl⟩ := h
    obtain ⟨a, a', rfl, rfl, e⟩ := eqPtr_ok T hr hb hu hv
    refine ⟨.bool b, two_run (by rw [eqGuard_at_pointer]; rfl) ?_, .bool b⟩
    rw [binOp_eql_run (P := P) (w := w) t (.pointer (some a)) (.pointer (some a')) (by intro _ _ h; cases h) (by intro _ h; cases h) (by intro _ _ h; cases h) (by intro _ _ _ h; cases h), e]
    rfl
  · simp only [Option.map_eq_some_iff] at h
    obtain ⟨b, hb, rfl⟩ := h
    obtain ⟨a, a', rfl, rfl, e⟩ := eqPtr_ok T hr hb hu hv
    refine ⟨.bool !b, two_run (by rw [eqGuard_at_pointer]; rfl) ?_, .bool _⟩
    rw [binOp_neq_run (P := P) (w := w) t (.pointer (some a)) (.pointer (some a')) (by intro _ _ h; cases h) (by intro _ h; cases h) (by intro _ _ h; cases h) (by intro _ _ _ h; cases h), e]
    rfl
  · rename_i hi hs _
    split at h
    case isFalse => cases h
    case isTrue hg =>
      simp only [Option.map_eq_some_iff] at h
      obtain ⟨b, hb, rfl⟩ := h
      obtain ⟨ga, gb⟩ := guard_atom hg
      refine ⟨.bool b, two_run (eqGuard_ok T hg hu hv) ?_, .bool b⟩
      have hn : numLike u = false := by
        cases hq : numLike u with
        | false => rfl
        | true =>
          rcases eqA_num hb hq gb with ⟨k, a, k', a', rfl, rfl⟩ | ⟨s, s', rfl, rfl⟩
          · exact (hi _ _ _ _ rfl rfl).elim
          · exact (hs _ _ rfl rfl).elim
      obtain ⟨n1, n2, n3, n4⟩ := ne_of_num ((hu.num ga).trans hn)
      rw [binOp_eql_run t u' v' n1 n2 n3 n4, show (Op.equal t u' v').run P w = .ok b w from eqA_ok T (w := w) Y 100 Op.maxDepth t _ _ _ _ b (by decide) hb hu hv]
      rfl
  · rename_i hi hs _
    split at h
    case isFalse => cases h
    case isTrue hg =>
      simp only [Option.map_eq_some_iff] at h
      obtain ⟨b, hb, rfl⟩ := h
      obtain ⟨ga, gb⟩ := guard_atom hg
      refine ⟨.bool !b, two_run (eqGuard_ok T hg hu hv) ?_, .bool _⟩
      have hn : numLike u = false := by
        cases hq : numLike u with
        | false => rfl
        | true =>
          rcases eqA_num hb hq gb with ⟨k, a, k', a', rfl, rfl⟩ | ⟨s, s', rfl, rfl⟩
          · exact (hi _ _ _ _ rfl rfl).elim
          · exact (hs _ _ rfl rfl).elim
      obtain ⟨n1, n2, n3, n4⟩ := ne_of_num ((hu.num ga).trans hn)
      rw [binOp_neq_run t u' v' n1 n2 n3 n4, show (Op.equal t u' v').run P w = .ok b w from eqA_ok T (w := w) Y 100 Op.maxDepth t _ _ _ _ b (by decide) hb hu hv]
      rfl
  · cases h

omit T in
theorem un_ok {op : UnOp} {x x' v : Value} (h : unA op x = some v) (hx : VR μ x x') : RdOk P μ w (Op.unary op x') v := by
  cases op <;> cases x <;> simp only [unA] at h <;> (try (cases h; done))
  all_goals cases h
  · cases hx; exact ⟨_, rfl, .int _ _⟩
  · cases hx; exact ⟨_, rfl, .bool _⟩
end
end Go.Vsx
