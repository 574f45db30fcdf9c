/- Calls whose answer is known; the first world; what a closed law gives. -/
import Derived.Test.YtfahjdpepgedpaaGreatDoorVFast
import Derived.Test.YtfahjdpepgedpaaGreatDoorVExt
import GoSem.ClaimWide
import Derived.Lib.LaidU8
set_option linter.all false
namespace Go.Vsx
open Go Go.RowKit

/-- The first heap: rows that are only read. -/
def roHeap (H0 : Heap) : Prop := ∀ v o, H0.get v = some o → o.own = false

/-- What is asked of the first world. -/
def Init (ng : Nat) (H0 : Heap) (B : Nat) (W0 : World) : Prop :=
  ∃ μ0 : Mu, (∀ g, g < ng → ∃ ex, μ0.pl g = some ⟨g, 0, ex⟩) ∧ (∀ b, μ0.kp b = none) ∧ HR B W0 μ0 H0 W0

/-- Nothing is known of atoms and of blocks. -/
def noMu : Mu := ⟨fun _ => none, fun _ => none, fun _ => none⟩
theorem noMu_le (μ : Mu) : noMu.leV μ := by
  refine ⟨fun v p h => ?_, fun v x h => ?_⟩ <;> cases h
def initGSm (ng : Nat) (H0 : Heap) (m : Mu) : GS := ⟨ng, Init ng H0, m⟩
abbrev initGS (ng : Nat) (H0 : Heap) : GS := initGSm ng H0 noMu

theorem Init.later {ng : Nat} {H0 : Heap} {B : Nat} {W0 w : World} (hro : roHeap H0) (h : Init ng H0 B W0) (hb : Below B W0 w) : Init ng H0 w.heap.size w := by
  obtain ⟨μ0, h1, h2, hr⟩ := h
  have hB : B ≤ w.heap.size := Nat.le_trans hr.base hb.size
  refine ⟨μ0, h1, h2, ?_⟩
  refine { below := Below.refl _ w, base := Nat.le_refl _, fresh := hr.fresh, atoms := hr.atoms, obj := ?_, inj := ?_, kept := ?_, aprt := ?_ }
  · intro v o hv
    obtain ⟨p, a, b, c, d⟩ := hr.obj v o hv
    have hown := hro v o hv
    have hlt := d hown
    exact ⟨p, a, b.of_block (hb.block _ hlt), fun k => (by rw [hown] at k; cases k), fun _ => Nat.lt_of_lt_of_le hlt hB⟩
  · intro v v' o o' p p' a b k1
    rw [hro v o a] at k1; cases k1
  · intro b O e
    rw [h2] at e; cases e
  · intro v o p hv k
    rw [hro v o hv] at k; cases k

/-- A call's answer out of the first heap holds in every later one. -/
theorem memo_ok {P : Program} {E : Env} {ng : Nat} {H0 H1 : Heap} {f : FuncId} {v : Value} {n : Nat} {m : Mu} (hro : roHeap H0)
    (C : CallOk P (initGS ng H0) (callE E (execC E n))) (h : callE E (execC E n) f [] H0 = some (v, H1)) (hv : plainC v = true) (H : Heap) : TCall P (initGSm ng H0 m) f [] H v H := by
  intro B W0 μ w args' hr g hl
  have hargs : args' = #[] := by have := hl.nil_inv; exact Array.toList_inj.1 (by simpa using this)
  subst hargs
  have hI : Init ng H0 B W0 := g.2.1
  obtain ⟨μ0, h1, h2, hr0⟩ := Init.later hro hI hr.below
  refine ((C f [] H0 v H1 h).2 w.heap.size w μ0 w #[] hr0 ⟨h1, ⟨μ0, h1, h2, hr0⟩, noMu_le _⟩ VL.nil).mono ?_
  rintro e w' ⟨μ', v', rfl, hle, hr', hvr⟩
  have hbel : Below w.heap.size w w' := hr'.below
  refine ⟨μ, v', rfl, μ.le_refl, hr.of_world (hbel.mono hr.base) hbel.size (fun v o p hv hp => hbel.block _ (hr.blk_lt hv hp)) (fun b O e => hbel.block _ (Array.getElem?_eq_some_iff.1 (hr.kept b O e)).1), ?_⟩
  rw [plain_eq hv hvr]
  exact plain_ok hv


/-- A trie of pairs. -/
noncomputable def ptOf {α : Type} (l : List (Nat × α)) : PT α := l.foldr (fun x t => t.set x.1 (some x.2)) PT.room
theorem ptOf_mem {α : Type} : ∀ (l : List (Nat × α)) (n : Nat) (x : α), (ptOf l).get n = some x → (n, x) ∈ l
  | [], n, x, h => by rw [show (ptOf ([] : List (Nat × α))).get n = none from PT.get_room n] at h; cases h
  | y :: l, n, x, h => by
    have h' : ((ptOf l).set y.1 (some y.2)).get n = some x := h
    rw [PT.get_set] at h'
    split at h'
    · rename_i e; cases h'; subst e; exact List.mem_cons_self
    · exact List.mem_cons_of_mem _ (ptOf_mem l n x h')

/-- A function that is taken by a contract. -/
def PrimFits (P : Program) (E : Env) (G : GS) (f : FuncId) (k : PrimK) : Prop :=
  (∃ fn, P.funcs[f]? = some fn ∧ fn.body.isNone = false ∧ (fn.name == "runtime.NumGoroutine") = false) ∧ ∀ args H v H', primA E k args H = some (v, H') → TCall P G f args H v H'

theorem prim_of {P : Program} {E : Env} {G : GS} {l : List (Nat × PrimK)} (hp : E.prim = ptOf l) (h : ∀ x ∈ l, PrimFits P E G x.1 x.2) : PrimOk P E G := by
  intro f k hk
  rw [hp] at hk
  exact h (f, k) (ptOf_mem l f k hk)

theorem memo_fits {P : Program} {E : Env} {ng : Nat} {H0 H1 : Heap} {f : FuncId} {fn : Func} {v : Value} {n : Nat} {E' : Env} {m : Mu} (hf : P.funcs[f]? = some fn) (hb : fn.body.isNone = false) (hn : (fn.name == "runtime.NumGoroutine") = false) (hro : roHeap H0)
    (C : CallOk P (initGS ng H0) (callE E (execC E n))) (h : fCall E n f [] H0 = some (v, H1)) (hv : plainC v = true) : PrimFits P E' (initGSm ng H0 m) f (.memo v) := by
  rw [fCall_eq] at h
  refine ⟨⟨fn, hf, hb, hn⟩, fun args H v' H' hp => ?_⟩
  unfold primA at hp
  simp only [] at hp
  split at hp
  · cases hp; exact memo_ok hro C h hv H
  · cases hp

/-- The answer alone. -/
def answers (r : Option (Value × Heap)) (b : Bool) : Bool :=
  match r with
  | some (.bool c, _) => c == b
  | _ => false
theorem of_answers {r : Option (Value × Heap)} {b : Bool} (h : answers r b = true) : ∃ H1, r = some (.bool b, H1) := by
  unfold answers at h
  split at h
  · rename_i c H1; exact ⟨H1, by rw [eq_of_beq h]⟩
  · cases h

theorem callOkS {P : Program} {ext : PT ExtK} {prim : PT PrimK} {sy : PT (List SE)} {ng : Nat} {H0 : Heap} {m : Mu} (hng : P.globals.size = ng) (hm : P.follows .mixedOrders = true) (hx : ∀ f k, ext.get f = some k → ExtFits P f k)
    (hc : ∀ f, f < P.funcs.size → chkF P f = true) (hp : PrimOk P (mkEnvS P ext prim sy) (initGSm ng H0 m)) (hy : SymOk (mkEnvS P ext prim sy) m) (n : Nat) :
    CallOk P (initGSm ng H0 m) (callE (mkEnvS P ext prim sy) (execC (mkEnvS P ext prim sy) n)) := by
  have T := mkEnvS_ty P ext prim sy
  have F : EnvF P (mkEnvS P ext prim sy) (initGSm ng H0 m).ng := by
    have := mkEnvS_fn ext prim sy hc
    rw [hng] at this; exact this
  exact callE_ok T F hp (sound T ⟨ext_ok T hx, hy⟩ hm F hp n).1
theorem callOk {P : Program} {ext : PT ExtK} {prim : PT PrimK} {ng : Nat} {H0 : Heap} (hng : P.globals.size = ng) (hm : P.follows .mixedOrders = true) (hx : ∀ f k, ext.get f = some k → ExtFits P f k)
    (hc : ∀ f, f < P.funcs.size → chkF P f = true) (hp : PrimOk P (mkEnv P ext prim) (initGS ng H0)) (n : Nat) : CallOk P (initGS ng H0) (callE (mkEnv P ext prim) (execC (mkEnv P ext prim) n)) :=
  callOkS hng hm hx hc hp (.none rfl) n
/-- The first heap: one cell of each of some package variables, never looked into. -/
noncomputable def firstHeap (ng : Nat) (gs : List Nat) : Heap := ⟨ng, ptOf (gs.map fun g => (g, AObj.row ⟨[.chan (some g)], 1, 0, 1, true, false, false⟩))⟩

theorem firstHeap_get {ng : Nat} {gs : List Nat} {v : Nat} {o : AObj} (h : (firstHeap ng gs).get v = some o) : v ∈ gs ∧ o = .row ⟨[.chan (some v)], 1, 0, 1, true, false, false⟩ := by
  have := ptOf_mem _ _ _ h
  obtain ⟨g, hg, e⟩ := List.mem_map.1 this
  injection e with e1 e2
  subst e1
  exact ⟨hg, e2.symm⟩

theorem firstHeap_ro (ng : Nat) (gs : List Nat) : roHeap (firstHeap ng gs) := by
  intro v o h
  rw [(firstHeap_get h).2]; rfl

theorem init_of {ng : Nat} {gs : List Nat} (W : World) (h : ∀ g ∈ gs, g < ng ∧ ∃ x, W.cell? ⟨g, 0, none⟩ = some x ∧ x.oneCell' = true) : Init ng (firstHeap ng gs) W.heap.size W := by
  refine ⟨⟨fun v => if v < ng then some ⟨v, 0, 0⟩ else none, fun k => if k ∈ gs then W.cell? ⟨k, 0, none⟩ else none, fun _ => none⟩, fun g hg => ⟨0, by simp [hg]⟩, fun _ => rfl, ?_⟩
  have blk : ∀ g x, W.cell? ⟨g, 0, none⟩ = some x → ∃ c e fr, W.heap[g]? = some (.cells c e fr) ∧ c[0]? = some x := by
    intro g x hx
    unfold World.cell? at hx
    simp only at hx
    split at hx
    · rename_i c e fr hh
      exact ⟨c, e, fr, hh, by simpa using hx⟩
    · simp at hx
  refine { below := Below.refl _ W, base := Nat.le_refl _, fresh := ?_, atoms := ?_, obj := ?_, inj := ?_, kept := ?_, aprt := ?_ }
  · intro v hv
    have : ¬ v < ng := Nat.not_lt.2 hv
    simp [this]
  · intro k x hk
    simp only at hk
    split at hk
    · rename_i hm
      obtain ⟨_, y, hy, ho⟩ := h k hm
      rw [hy] at hk; cases hk; exact ho
    · cases hk
  · intro v o hv
    obtain ⟨hm, rfl⟩ := firstHeap_get hv
    obtain ⟨hlt, x, hx, ho⟩ := h v hm
    obtain ⟨c, e, fr, hh, hc⟩ := blk v x hx
    refine ⟨⟨v, 0, 0⟩, by simp [hlt], ⟨c, e, fr, hh, ?_, fun k => by cases k⟩, fun k => (by cases k), fun _ => (Array.getElem?_eq_some_iff.1 hh).1⟩
    intro i y hy
    cases i with
    | zero =>
      simp at hy
      subst hy
      exact ⟨x, by simpa using hc, .atom v x (by simp [hm, hx])⟩
    | succ i => simp at hy
  · intro v v' o o' p p' a b k
    rw [(firstHeap_get a).2] at k; cases k
  · intro b O e; cases e
  · intro v o p a k
    rw [(firstHeap_get a).2] at k; cases k

/-- A closed law. -/
theorem closed_ok {P : Program} {E : Env} {ng : Nat} {gs : List Nat} {f : FuncId} {n : Nat} {b : Bool} (C : CallOk P (initGS ng (firstHeap ng gs)) (callE E (execC E n)))
    (h : answers (fCall E n f [] (firstHeap ng gs)) b = true) (W : World) (hc : ∀ g ∈ gs, g < ng ∧ ∃ x, W.cell? ⟨g, 0, none⟩ = some x ∧ x.oneCell' = true) :
    Calls P f #[] W fun e W' => e = .returned (.bool b) ∧ Below W.heap.size W W' := by
  obtain ⟨H1, h1⟩ := of_answers h
  rw [fCall_eq] at h1
  have hI := init_of W hc
  obtain ⟨μ0, h2, h3, hr⟩ := hI
  refine ((C f [] _ _ H1 h1).2 W.heap.size W μ0 W #[] hr ⟨h2, ⟨μ0, h2, h3, hr⟩, noMu_le _⟩ VL.nil).mono ?_
  rintro e W' ⟨μ', v', rfl, _, hr', hv⟩
  cases hv
  exact ⟨rfl, hr'.below⟩

/-! a law with arguments -/

/-- What is known of the arguments: what each atom stands for; rows that are only read: block, first cell, how many elements of capacity are beyond, what is in them. -/
structure Given where
  at_ : Nat → Option Value
  rows : List (Nat × Nat × Nat × List Value)

def Given.mu (ng : Nat) (a : Given) : Mu := ⟨fun v => if v < ng then none else (a.rows[v - ng]?).map fun r => ⟨r.1, r.2.1, r.2.2.1⟩, a.at_, fun _ => none⟩
noncomputable def argRow (l : List Value) : AObj := .row ⟨l, l.length, 0, 1, true, false, false⟩
noncomputable def argPairs (i : Nat) : List (List Value) → List (Nat × AObj)
  | [] => []
  | l :: r => (i, argRow l) :: argPairs (i + 1) r
/-- The first heap, with the arguments' rows. -/
noncomputable def openHeap (ng : Nat) (gs : List Nat) (rows : List (List Value)) : Heap :=
  ⟨ng + rows.length, ptOf ((gs.map fun g => (g, AObj.row ⟨[.chan (some g)], 1, 0, 1, true, false, false⟩)) ++ argPairs ng rows)⟩

theorem argPairs_mem {v : Nat} {o : AObj} : ∀ {rows : List (List Value)} {i : Nat}, (v, o) ∈ argPairs i rows → i ≤ v ∧ v < i + rows.length ∧ ∃ l, rows[v - i]? = some l ∧ o = argRow l
  | [], i, h => by cases h
  | l :: r, i, h => by
    rcases List.mem_cons.1 h with e | h
    · injection e with e1 e2
      subst e1; subst e2
      exact ⟨Nat.le_refl _, by simp, l, by simp, rfl⟩
    · obtain ⟨h1, h2, l', h3, h4⟩ := argPairs_mem h
      refine ⟨by omega, by simp only [List.length_cons]; omega, l', ?_, h4⟩
      rw [show v - i = (v - (i + 1)) + 1 by omega]
      simpa using h3

theorem openHeap_get {ng : Nat} {gs : List Nat} {rows : List (List Value)} {v : Nat} {o : AObj} (h : (openHeap ng gs rows).get v = some o) :
    (v ∈ gs ∧ o = .row ⟨[.chan (some v)], 1, 0, 1, true, false, false⟩) ∨ (ng ≤ v ∧ v < ng + rows.length ∧ ∃ l, rows[v - ng]? = some l ∧ o = argRow l) := by
  have := ptOf_mem _ _ _ h
  rcases List.mem_append.1 this with h | h
  · obtain ⟨g, hg, e⟩ := List.mem_map.1 h
    injection e with e1 e2
    subst e1
    exact .inl ⟨hg, e2.symm⟩
  · exact .inr (argPairs_mem h)

theorem open_init {ng : Nat} {gs : List Nat} (W : World) (a : Given) (h : ∀ g ∈ gs, g < ng ∧ ∃ x, W.cell? ⟨g, 0, none⟩ = some x ∧ x.oneCell' = true)
    (h1 : ∀ k x, a.at_ k = some x → x.oneCell' = true ∧ ng ≤ k)
    (h2 : ∀ r ∈ a.rows, ∃ c e fr, W.heap[r.1]? = some (.cells c e fr) ∧ ∀ i v, r.2.2.2[i]? = some v → ∃ x, c[r.2.1 + i]? = some x ∧ VR (a.mu ng) v x) :
    ∃ μ : Mu, HR W.heap.size W μ (openHeap ng gs (a.rows.map (·.2.2.2))) W ∧ (∀ g, g < ng → ∃ ex, μ.pl g = some ⟨g, 0, ex⟩) ∧ (a.mu ng).leV μ := by
  have hle : (a.mu ng).leV ⟨fun v => if v < ng then some ⟨v, 0, 0⟩ else (a.mu ng).pl v, fun k => if k ∈ gs then W.cell? ⟨k, 0, none⟩ else a.at_ k, fun _ => none⟩ := by
    refine ⟨fun v p hp => ?_, fun k x hk => ?_⟩
    · by_cases hv : v < ng
      · simp [Given.mu, hv] at hp
      · simp only [hv, if_false]; exact hp
    · have : k ∉ gs := fun hm => by
        have := (h k hm).1
        have := (h1 k x hk).2
        omega
      simp only [this, if_false]; exact hk
  refine ⟨⟨fun v => if v < ng then some ⟨v, 0, 0⟩ else (a.mu ng).pl v, fun k => if k ∈ gs then W.cell? ⟨k, 0, none⟩ else a.at_ k, fun _ => none⟩, ?_, fun g hg => ⟨0, by simp [hg]⟩, hle⟩
  · have blk : ∀ g x, W.cell? ⟨g, 0, none⟩ = some x → ∃ c e fr, W.heap[g]? = some (.cells c e fr) ∧ c[0]? = some x := by
      intro g x hx
      unfold World.cell? at hx
      simp only at hx
      split at hx
      · rename_i c e fr hh
        exact ⟨c, e, fr, hh, by simpa using hx⟩
      · simp at hx
    have own : ∀ v o, (openHeap ng gs (a.rows.map (·.2.2.2))).get v = some o → o.own = false := by
      intro v o hv
      rcases openHeap_get hv with ⟨_, rfl⟩ | ⟨_, _, l, _, rfl⟩ <;> rfl
    refine { below := Below.refl _ W, base := Nat.le_refl _, fresh := ?_, atoms := ?_, obj := ?_, inj := ?_, kept := ?_, aprt := ?_ }
    · intro v hv
      have hv' : ng + (a.rows.map (·.2.2.2)).length ≤ v := hv
      rw [List.length_map] at hv'
      have : ¬ v < ng := by omega
      simp only [this, if_false, Given.mu]
      rw [List.getElem?_eq_none (by omega)]; rfl
    · intro k x hk
      simp only at hk
      split at hk
      · rename_i hm
        obtain ⟨_, y, hy, ho⟩ := h k hm
        rw [hy] at hk; cases hk; exact ho
      · exact (h1 k x hk).1
    · intro v o hv
      rcases openHeap_get hv with ⟨hm, rfl⟩ | ⟨hlo, hhi, l, hl, rfl⟩
      · obtain ⟨hlt, x, hx, ho⟩ := h v hm
        obtain ⟨c, e, fr, hh, hc⟩ := blk v x hx
        refine ⟨⟨v, 0, 0⟩, by simp [hlt], ⟨c, e, fr, hh, ?_, fun k => by cases k⟩, fun k => (by cases k), fun _ => (Array.getElem?_eq_some_iff.1 hh).1⟩
        intro i y hy
        cases i with
        | zero =>
          simp at hy
          subst hy
          exact ⟨x, by simpa using hc, .atom v x (by simp [hm, hx])⟩
        | succ i => simp at hy
      · rw [List.getElem?_map, Option.map_eq_some_iff] at hl
        obtain ⟨r, hr, rfl⟩ := hl
        obtain ⟨c, e, fr, hh, hc⟩ := h2 r (List.mem_of_getElem? hr)
        have hng : ¬ v < ng := by omega
        refine ⟨⟨r.1, r.2.1, r.2.2.1⟩, by simp [hng, Given.mu, hr], ⟨c, e, fr, hh, ?_, fun k => by cases k⟩, fun k => (by cases k), fun _ => (Array.getElem?_eq_some_iff.1 hh).1⟩
        intro i y hy
        obtain ⟨x, hx, hat⟩ := hc i y hy
        exact ⟨x, hx, hat.monoV hle⟩
    · intro v v' o o' p p' a b k
      rw [own v o a] at k; cases k
    · intro b O e; cases e
    · intro v o p a k
      rw [own v o a] at k; cases k

/-- A law with arguments. -/
theorem open_ok {P : Program} {E : Env} {ng : Nat} {gs : List Nat} {f : FuncId} {n : Nat} {b : Bool} {a : Given} {args : List Value} {args' : Array Value}
    (C : CallOk P (initGSm ng (firstHeap ng gs) (a.mu ng)) (callE E (execC E n)))
    (h : answers (fCall E n f args (openHeap ng gs (a.rows.map (·.2.2.2)))) b = true) (W : World) (hc : ∀ g ∈ gs, g < ng ∧ ∃ x, W.cell? ⟨g, 0, none⟩ = some x ∧ x.oneCell' = true)
    (h1 : ∀ k x, a.at_ k = some x → x.oneCell' = true ∧ ng ≤ k)
    (h2 : ∀ r ∈ a.rows, ∃ c e fr, W.heap[r.1]? = some (.cells c e fr) ∧ ∀ i v, r.2.2.2[i]? = some v → ∃ x, c[r.2.1 + i]? = some x ∧ VR (a.mu ng) v x)
    (hl : VL (a.mu ng) args args'.toList) :
    Calls P f args' W fun e W' => e = .returned (.bool b) ∧ Below W.heap.size W W' := by
  obtain ⟨H1, he⟩ := of_answers h
  rw [fCall_eq] at he
  obtain ⟨μ, hr, hpl, hle⟩ := open_init W a hc h1 h2
  have hI := init_of W hc
  refine ((C f args _ _ H1 he).2 W.heap.size W μ W args' hr ⟨hpl, hI, hle⟩ ⟨hl.1, fun i v v' x y => (hl.2 i v v' x y).monoV hle⟩).mono ?_
  rintro e W' ⟨μ', v', rfl, _, hr', hv⟩
  cases hv
  exact ⟨rfl, hr'.below⟩

theorem trod_iface_cell {H : Type} {enc : TypeId × Value → H} {P : Program} {w : World} {base : Nat} {sp : Nat → Bool} {held : Bool} {fuel : Nat} {t : TypeId} {ms : Array (String × TypeId)} {cs : List Value} {nm : String} {d : DataW H} {p : List MemPlace}
    (ht : P.underlying t = some (.interface ms)) (h : DataW.trod enc P w base sp held fuel t cs = some (.iface nm d, p)) : ∃ u v, cs = [.iface u v] := by
  cases fuel with
  | zero => simp [DataW.trod] at h
  | succ fuel =>
    unfold DataW.trod at h
    simp only [ht] at h
    split at h <;> first | (cases h; done) | skip
    all_goals first | exact ⟨_, _, rfl⟩ | (simp_all; done)
end Go.Vsx
