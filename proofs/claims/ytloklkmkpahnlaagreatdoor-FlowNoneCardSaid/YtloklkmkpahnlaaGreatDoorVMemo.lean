/- Calls whose answer is known; the first world; what a closed law gives. -/
import Derived.Test.YtloklkmkpahnlaaGreatDoorVFast
import Derived.Test.YtloklkmkpahnlaaGreatDoorVExt
import GoSem.ClaimWide
import Derived.Lib.LaidU8
set_option linter.all false
namespace Go.Vsx
open Go Go.RowKit

/-- The first heap: rows that are only read. -/
def roHeap (H0 : Heap) : Prop := ∀ v o, H0.get v = some o → o.own = false

/-- What is asked of the first world. -/
def Init (ng : Nat) (H0 : Heap) (B : Nat) (W0 : World) : Prop :=
  ∃ μ0 : Mu, (∀ g, g < ng → ∃ ex, μ0.pl g = some ⟨g, 0, ex⟩) ∧ (∀ b, μ0.kp b = none) ∧ HR B W0 μ0 H0 W0

def initGS (ng : Nat) (H0 : Heap) : GS := ⟨ng, Init ng H0⟩

theorem Init.later {ng : Nat} {H0 : Heap} {B : Nat} {W0 w : World} (hro : roHeap H0) (h : Init ng H0 B W0) (hb : Below B W0 w) : Init ng H0 w.heap.size w := by
  obtain ⟨μ0, h1, h2, hr⟩ := h
  have hB : B ≤ w.heap.size := Nat.le_trans hr.base hb.size
  refine ⟨μ0, h1, h2, ?_⟩
  refine { below := Below.refl _ w, base := Nat.le_refl _, fresh := hr.fresh, atoms := hr.atoms, obj := ?_, inj := ?_, kept := ?_, aprt := ?_ }
  · intro v o hv
    obtain ⟨p, a, b, c, d⟩ := hr.obj v o hv
    have hown := hro v o hv
    have hlt := d hown
    exact ⟨p, a, b.of_block (hb.block _ hlt), fun k => (by rw [hown] at k; cases k), fun _ => Nat.lt_of_lt_of_le hlt hB⟩
  · intro v v' o o' p p' a b k1
    rw [hro v o a] at k1; cases k1
  · intro b O e
    rw [h2] at e; cases e
  · intro v o p hv k
    rw [hro v o hv] at k; cases k

/-- A call's answer out of the first heap holds in every later one. -/
theorem memo_ok {P : Program} {E : Env} {ng : Nat} {H0 H1 : Heap} {f : FuncId} {v : Value} {n : Nat} (hro : roHeap H0)
    (C : CallOk P (initGS ng H0) (callE E (execC E n))) (h : callE E (execC E n) f [] H0 = some (v, H1)) (hv : plainC v = true) (H : Heap) : TCall P (initGS ng H0) f [] H v H := by
  intro B W0 μ w args' hr g hl
  have hargs : args' = #[] := by have := hl.nil_inv; exact Array.toList_inj.1 (by simpa using this)
  subst hargs
  have hI : Init ng H0 B W0 := g.2
  obtain ⟨μ0, h1, h2, hr0⟩ := Init.later hro hI hr.below
  refine ((C f [] H0 v H1 h).2 w.heap.size w μ0 w #[] hr0 ⟨h1, ⟨μ0, h1, h2, hr0⟩⟩ VL.nil).mono ?_
  rintro e w' ⟨μ', v', rfl, hle, hr', hvr⟩
  have hbel : Below w.heap.size w w' := hr'.below
  refine ⟨μ, v', rfl, μ.le_refl, hr.of_world (hbel.mono hr.base) hbel.size (fun v o p hv hp => hbel.block _ (hr.blk_lt hv hp)) (fun b O e => hbel.block _ (Array.getElem?_eq_some_iff.1 (hr.kept b O e)).1), ?_⟩
  rw [plain_eq hv hvr]
  exact plain_ok hv


/-- A trie of pairs. -/
noncomputable def ptOf {α : Type} (l : List (Nat × α)) : PT α := l.foldr (fun x t => t.set x.1 (some x.2)) .leaf
theorem ptOf_mem {α : Type} : ∀ (l : List (Nat × α)) (n : Nat) (x : α), (ptOf l).get n = some x → (n, x) ∈ l
  | [], n, x, h => by cases h
  | y :: l, n, x, h => by
    have h' : ((ptOf l).set y.1 (some y.2)).get n = some x := h
    rw [PT.get_set] at h'
    split at h'
    · rename_i e; cases h'; subst e; exact List.mem_cons_self
    · exact List.mem_cons_of_mem _ (ptOf_mem l n x h')

/-- A function that is taken by a contract. -/
def PrimFits (P : Program) (E : Env) (G : GS) (f : FuncId) (k : PrimK) : Prop :=
  (∃ fn, P.funcs[f]? = some fn ∧ fn.body.isNone = false ∧ (fn.name == "runtime.NumGoroutine") = false) ∧ ∀ args H v H', primA E k args H = some (v, H') → TCall P G f args H v H'

theorem prim_of {P : Program} {E : Env} {G : GS} {l : List (Nat × PrimK)} (hp : E.prim = ptOf l) (h : ∀ x ∈ l, PrimFits P E G x.1 x.2) : PrimOk P E G := by
  intro f k hk
  rw [hp] at hk
  exact h (f, k) (ptOf_mem l f k hk)

theorem memo_fits {P : Program} {E : Env} {ng : Nat} {H0 H1 : Heap} {f : FuncId} {fn : Func} {v : Value} {n : Nat} {E' : Env} (hf : P.funcs[f]? = some fn) (hb : fn.body.isNone = false) (hn : (fn.name == "runtime.NumGoroutine") = false) (hro : roHeap H0)
    (C : CallOk P (initGS ng H0) (callE E (execC E n))) (h : fCall E n f [] H0 = some (v, H1)) (hv : plainC v = true) : PrimFits P E' (initGS ng H0) f (.memo v) := by
  rw [fCall_eq] at h
  refine ⟨⟨fn, hf, hb, hn⟩, fun args H v' H' hp => ?_⟩
  unfold primA at hp
  simp only [] at hp
  split at hp
  · cases hp; exact memo_ok hro C h hv H
  · cases hp

/-- The answer alone. -/
def answers (r : Option (Value × Heap)) (b : Bool) : Bool :=
  match r with
  | some (.bool c, _) => c == b
  | _ => false
theorem of_answers {r : Option (Value × Heap)} {b : Bool} (h : answers r b = true) : ∃ H1, r = some (.bool b, H1) := by
  unfold answers at h
  split at h
  · rename_i c H1; exact ⟨H1, by rw [eq_of_beq h]⟩
  · cases h

theorem callOk {P : Program} {ext : PT ExtK} {prim : PT PrimK} {ng : Nat} {H0 : Heap} (hng : P.globals.size = ng) (hm : P.follows .mixedOrders = true) (hx : ∀ f k, ext.get f = some k → ExtFits P f k)
    (hc : ∀ f, f < P.funcs.size → chkF P f = true) (hp : PrimOk P (mkEnv P ext prim) (initGS ng H0)) (n : Nat) : CallOk P (initGS ng H0) (callE (mkEnv P ext prim) (execC (mkEnv P ext prim) n)) := by
  have T := mkEnv_ty P ext prim
  have F : EnvF P (mkEnv P ext prim) (initGS ng H0).ng := by
    have := mkEnv_fn ext prim hc
    rw [hng] at this; exact this
  exact callE_ok T F hp (sound T (ext_ok T hx) hm F hp n).1
/-- The first heap: one cell of each of some package variables, never looked into. -/
noncomputable def firstHeap (ng : Nat) (gs : List Nat) : Heap := ⟨ng, ptOf (gs.map fun g => (g, AObj.row ⟨[.chan (some g)], 1, 0, 1, true, false, false⟩))⟩

theorem firstHeap_get {ng : Nat} {gs : List Nat} {v : Nat} {o : AObj} (h : (firstHeap ng gs).get v = some o) : v ∈ gs ∧ o = .row ⟨[.chan (some v)], 1, 0, 1, true, false, false⟩ := by
  have := ptOf_mem _ _ _ h
  obtain ⟨g, hg, e⟩ := List.mem_map.1 this
  injection e with e1 e2
  subst e1
  exact ⟨hg, e2.symm⟩

theorem firstHeap_ro (ng : Nat) (gs : List Nat) : roHeap (firstHeap ng gs) := by
  intro v o h
  rw [(firstHeap_get h).2]; rfl

theorem init_of {ng : Nat} {gs : List Nat} (W : World) (h : ∀ g ∈ gs, g < ng ∧ ∃ x, W.cell? ⟨g, 0, none⟩ = some x ∧ x.oneCell' = true) : Init ng (firstHeap ng gs) W.heap.size W := by
  refine ⟨⟨fun v => if v < ng then some ⟨v, 0, 0⟩ else none, fun k => if k ∈ gs then W.cell? ⟨k, 0, none⟩ else none, fun _ => none⟩, fun g hg => ⟨0, by simp [hg]⟩, fun _ => rfl, ?_⟩
  have blk : ∀ g x, W.cell? ⟨g, 0, none⟩ = some x → ∃ c e fr, W.heap[g]? = some (.cells c e fr) ∧ c[0]? = some x := by
    intro g x hx
    unfold World.cell? at hx
    simp only at hx
    split at hx
    · rename_i c e fr hh
      exact ⟨c, e, fr, hh, by simpa using hx⟩
    · simp at hx
  refine { below := Below.refl _ W, base := Nat.le_refl _, fresh := ?_, atoms := ?_, obj := ?_, inj := ?_, kept := ?_, aprt := ?_ }
  · intro v hv
    have : ¬ v < ng := Nat.not_lt.2 hv
    simp [this]
  · intro k x hk
    simp only at hk
    split at hk
    · rename_i hm
      obtain ⟨_, y, hy, ho⟩ := h k hm
      rw [hy] at hk; cases hk; exact ho
    · cases hk
  · intro v o hv
    obtain ⟨hm, rfl⟩ := firstHeap_get hv
    obtain ⟨hlt, x, hx, ho⟩ := h v hm
    obtain ⟨c, e, fr, hh, hc⟩ := blk v x hx
    refine ⟨⟨v, 0, 0⟩, by simp [hlt], ⟨c, e, fr, hh, ?_, fun k => by cases k⟩, fun k => (by cases k), fun _ => (Array.getElem?_eq_some_iff.1 hh).1⟩
    intro i y hy
    cases i with
    | zero =>
      simp at hy
      subst hy
      exact ⟨x, by simpa using hc, .atom v x (by simp [hm, hx])⟩
    | succ i => simp at hy
  · intro v v' o o' p p' a b k
    rw [(firstHeap_get a).2] at k; cases k
  · intro b O e; cases e
  · intro v o p a k
    rw [(firstHeap_get a).2] at k; cases k

/-- A closed law. -/
theorem closed_ok {P : Program} {E : Env} {ng : Nat} {gs : List Nat} {f : FuncId} {n : Nat} {b : Bool} (C : CallOk P (initGS ng (firstHeap ng gs)) (callE E (execC E n)))
    (h : answers (fCall E n f [] (firstHeap ng gs)) b = true) (W : World) (hc : ∀ g ∈ gs, g < ng ∧ ∃ x, W.cell? ⟨g, 0, none⟩ = some x ∧ x.oneCell' = true) :
    Calls P f #[] W fun e W' => e = .returned (.bool b) ∧ Below W.heap.size W W' := by
  obtain ⟨H1, h1⟩ := of_answers h
  rw [fCall_eq] at h1
  have hI := init_of W hc
  obtain ⟨μ0, h2, h3, hr⟩ := hI
  refine ((C f [] _ _ H1 h1).2 W.heap.size W μ0 W #[] hr ⟨h2, ⟨μ0, h2, h3, hr⟩⟩ VL.nil).mono ?_
  rintro e W' ⟨μ', v', rfl, _, hr', hv⟩
  cases hv
  exact ⟨rfl, hr'.below⟩

theorem trod_iface_cell {H : Type} {enc : TypeId × Value → H} {P : Program} {w : World} {base : Nat} {sp : Nat → Bool} {held : Bool} {fuel : Nat} {t : TypeId} {ms : Array (String × TypeId)} {cs : List Value} {nm : String} {d : DataW H} {p : List MemPlace}
    (ht : P.underlying t = some (.interface ms)) (h : DataW.trod enc P w base sp held fuel t cs = some (.iface nm d, p)) : ∃ u v, cs = [.iface u v] := by
  cases fuel with
  | zero => simp [DataW.trod] at h
  | succ fuel =>
    unfold DataW.trod at h
    simp only [ht] at h
    split at h <;> first | (cases h; done) | skip
    all_goals first | exact ⟨_, _, rfl⟩ | (simp_all; done)
end Go.Vsx
