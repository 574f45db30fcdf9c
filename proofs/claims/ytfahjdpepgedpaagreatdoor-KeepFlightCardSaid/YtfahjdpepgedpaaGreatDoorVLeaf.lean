/- One piece of a run, from a node to the next: the table's entries, the argument's elements, the run itself, the weakening. -/
import Derived.Test.YtfahjdpepgedpaaGreatDoorVSub
set_option linter.all false
namespace Go.Vsx
open Go Go.RowKit

theorem PrimFits.law {P : Program} {E : Env} {ng : Nat} {H0 : Heap} {m : Mu} {W : World} {f : FuncId} {k : PrimK} (h : PrimFits P E (initGSm ng H0 m) f k) : PrimFits P E (lawG ng H0 W m) f k :=
  ⟨h.1, fun args H v H' hp B W0 μ w args' hr g hl => h.2 args H v H' hp B W0 μ w args' hr ⟨g.1, g.2.1.1, g.2.2⟩ hl⟩

theorem right_of {P : Program} {ext : PT ExtK} {prim : PT PrimK} {sy : PT (List SE)} {ng : Nat} {H0 : Heap} {m : Mu} {W : World} (hng : P.globals.size = ng) (hm : P.follows .mixedOrders = true) (hx : ∀ f k, ext.get f = some k → ExtFits P f k)
    (hc : ∀ f, f < P.funcs.size → chkF P f = true) (hp : PrimOk P (mkEnvS P ext prim sy) (lawG ng H0 W m)) (hy : SymOk (mkEnvS P ext prim sy) m) : Right P (mkEnvS P ext prim sy) (lawG ng H0 W m) where
  T := mkEnvS_ty P ext prim sy
  X := ⟨ext_ok (mkEnvS_ty P ext prim sy) hx, hy⟩
  hm := hm
  F := by
    have := mkEnvS_fn ext prim sy hc
    rw [hng] at this; exact this
  R := hp

/-- A node: how many slots, what is in them, the heap. -/
structure Nd where
  n : Nat
  tms : List (Nat × Value)
  next : Nat
  objs : List (Nat × AObj)

noncomputable section
def Nd.st (ng : Nat) (d : Nd) (roc : List (List Value)) : St := mkSt ng d.n d.tms d.next d.objs roc
def Nd.sub (ng : Nat) (d : Nd) (roc : List (List Value)) (rl : List (Nat × Nat)) (A : List Value) (σ : St) : Bool := subSt ng roc rl A d.n d.tms d.next d.objs σ

def idA (n : Nat) : List Value := (List.range n).map fun i => .chan (some (1000 + i))
def idl (ng : Nat) (objs : List (Nat × AObj)) : List (Nat × Nat) := (objs.filter fun x => Nat.ble ng x.1).map fun x => (x.1, x.1)

/-- Where the next node lies, if the run comes to a state that is one of its. -/
def leafNext (r : Option (Pt × St)) (ng : Nat) (d : Nd) (rl : List (Nat × Nat)) (A : List Value) : Option Pt :=
  match r with
  | some (pt, σ) => match d.sub ng [] rl A σ with
    | true => some pt
    | false => none
  | none => none
def leafFin (E : Env) (fn : Func) (r : Option (Pt × St)) : Bool :=
  match r with
  | some (.out .normal [], σ) => match resultsA E fn σ with
    | some (.bool b) => b
    | _ => false
  | some (.out .ret [], σ) => match resultsA E fn σ with
    | some (.bool b) => b
    | _ => false
  | _ => false

/-- The loop within the block of that number. -/
def findHead (id : Nat) : Code → List Fr → Option Pt
  | .seq a b, ks => match findHead id a (.seq b :: ks) with
    | some p => some p
    | none => findHead id b ks
  | .cond _ a b, ks => match findHead id a ks with
    | some p => some p
    | none => findHead id b ks
  | .block i b, ks => match Nat.beq i id with
    | true => match b with
      | .loop c => some (.head c (.block i :: ks))
      | _ => none
    | false => findHead id b (.block i :: ks)
  | .loop b, ks => findHead id b (.loop b :: ks)
  | _, _ => none
def ptOfBlock (id : Nat) (fn : Func) : Pt :=
  match fn.body with
  | some c => match findHead id c [] with
    | some p => p
    | none => .out .ret []
  | none => .out .ret []
def ptStart (fn : Func) : Pt :=
  match fn.body with
  | some c => .run c []
  | none => .out .ret []
end

theorem okPt_findHead {E : Env} {ng id : Nat} : ∀ (c : Code) (ks : List Fr) (pt : Pt), okCode E ng c = true → ks.all (okFr E ng) = true → findHead id c ks = some pt → okPt E ng pt = true
  | .seq a b, ks, pt, h, hk, hf => by
    simp only [okCode, Bool.and_eq_true] at h
    simp only [findHead] at hf
    split at hf
    · rename_i p hp
      cases hf
      exact okPt_findHead a _ pt h.1 (by simp [okFr, h.2, hk]) hp
    · exact okPt_findHead b _ pt h.2 hk hf
  | .cond x a b, ks, pt, h, hk, hf => by
    simp only [okCode, Bool.and_eq_true] at h
    simp only [findHead] at hf
    split at hf
    · rename_i p hp
      cases hf
      exact okPt_findHead a _ pt h.1.2 hk hp
    · exact okPt_findHead b _ pt h.2 hk hf
  | .block i b, ks, pt, h, hk, hf => by
    simp only [okCode] at h
    simp only [findHead] at hf
    split at hf
    · split at hf
      · rename_i c
        cases hf
        simp only [okCode] at h
        simp only [okPt, List.all_cons, okFr, Bool.true_and, Bool.and_eq_true]
        exact ⟨h, hk⟩
      · cases hf
    · exact okPt_findHead b _ pt h (by simp only [List.all_cons, okFr, Bool.true_and]; exact hk) hf
  | .loop b, ks, pt, h, hk, hf => by
    simp only [okCode] at h
    simp only [findHead] at hf
    exact okPt_findHead b _ pt h (by simp [okFr, h, hk]) hf
  | .skip, _, _, _, _, hf | .label _, _, _, _, _, hf | .exit _, _, _, _, _, hf | .ret, _, _, _, _, hf | .goto _, _, _, _, _, hf | .refuse _, _, _, _, _, hf => by cases hf
  | .region _ _ _, _, _, _, _, hf | .rangeFunc .., _, _, _, _, hf | .scope _, _, _, _, _, hf => by cases hf

theorem okPt_block {P : Program} {E : Env} {ng : Nat} (R : EnvF P E ng) {f : FuncId} {fn : Func} (hf : E.ft.get f = some fn) (id : Nat) : okPt E ng (ptOfBlock id fn) = true := by
  have key := (R f fn hf).2.2
  unfold ptOfBlock
  split
  · rename_i c hc
    split
    · rename_i p hp
      exact okPt_findHead c [] p (key c hc) rfl hp
    · rfl
  · rfl
theorem okPt_start {P : Program} {E : Env} {ng : Nat} (R : EnvF P E ng) {f : FuncId} {fn : Func} (hf : E.ft.get f = some fn) : okPt E ng (ptStart fn) = true := by
  have key := (R f fn hf).2.2
  unfold ptStart
  split
  · rename_i c hc
    simp only [okPt, key c hc, Bool.true_and]; rfl
  · rfl

theorem okFr_tt {E E' : Env} (h : E.tt = E'.tt) {ng : Nat} (x : Fr) : okFr E ng x = okFr E' ng x := by
  cases x <;> simp only [okFr, okCode_tt h]
theorem okPt_tt {E E' : Env} (h : E.tt = E'.tt) {ng : Nat} (pt : Pt) : okPt E ng pt = okPt E' ng pt := by
  have : okFr E ng = okFr E' ng := by funext x; exact okFr_tt h x
  cases pt <;> simp only [okPt, this, okCode_tt h]
theorem okPt_of {P : Program} {ext : PT ExtK} {prim : PT PrimK} {sy : PT (List SE)} {ng : Nat} {pt : Pt} (h : okPt (tyEnv P) ng pt = true) : okPt (mkEnvS P ext prim sy) ng pt = true := (okPt_tt (E := mkEnvS P ext prim sy) (E' := tyEnv P) rfl pt).trans h

def lawQ (P : Program) (fn : Func) (W : World) : Nat → World → Exit → Act → World → Prop :=
  fun _ _ => bodyPost P fn (fun e w => e = .returned (.bool true) ∧ Below W.heap.size W w)

/-- From such a node, with these values for its atoms, all goes well. -/
def NdGood (P : Program) (fn : Func) (ng : Nat) (H0 : Heap) (W : World) (pt : Pt) (d : Nd) (vals : List Value) : Prop :=
  Good P (lawG ng H0 W (nodeMu ng [] vals)) (lawQ P fn W) pt (d.st ng [])

def evL (m : Mu) : List Value → Option (List Value)
  | [] => some []
  | u :: l => match evM m u with
    | some x => match evL m l with
      | some r => some (x :: r)
      | none => none
    | none => none
theorem evL_get {m : Mu} : ∀ {A vals : List Value}, evL m A = some vals → ∀ (i : Nat) u, A[i]? = some u → ∃ x, evM m u = some x ∧ vals[i]? = some x
  | [], vals, h, i, u, hu => by simp at hu
  | a :: A, vals, h, i, u, hu => by
    simp only [evL] at h
    split at h
    case h_2 => cases h
    case h_1 x hx =>
    split at h
    case h_2 => cases h
    case h_1 r hr =>
    cases h
    cases i with
    | zero => simp at hu; subst hu; exact ⟨x, hx, rfl⟩
    | succ i => obtain ⟨y, k1, k2⟩ := evL_get hr i u (by simpa using hu); exact ⟨y, k1, by simpa using k2⟩

section
variable {P : Program} {E : Env} {ng : Nat} {H0 : Heap} {W : World} {fn : Func} {f : FuncId} {pt : Pt} {d : Nd} {vals extras : List Value} {rows : List Pl} {roc : List (List Value)}

/-- More is said of the first state: more atoms, rows of the arguments. -/
theorem NdGood.reset (hng : ng ≤ 1000) (hk : Nat) (hid : d.sub ng roc (idl ng d.objs) (idA hk) (d.st ng []) = true) (hlen : hk = vals.length)
    (hone : (vals ++ extras).all (·.oneCell') = true) (hrow : RowsHold W (nodeMu ng rows (vals ++ extras)) rows roc)
    (h : Good P (lawG ng H0 W (nodeMu ng rows (vals ++ extras))) (lawQ P fn W) pt (d.st ng roc)) : NdGood P fn ng H0 W pt d vals := by
  refine Good.sub hng hid hone (fun i u hu => ?_) hrow h
  have hi : i < hk := by
    have := (List.getElem?_eq_some_iff.1 hu).1
    simpa [idA] using this
  have : u = .chan (some (1000 + i)) := by
    simp only [idA, List.getElem?_map, List.getElem?_range hi, Option.map_some, Option.some.injEq] at hu
    exact hu.symm
  subst this
  have hiv : i < vals.length := by omega
  refine ⟨vals[i], ?_, ?_⟩
  · simp [evM, nodeMu, atomsOf, hiv]
  · rw [List.getElem?_append_left hiv]; exact List.getElem?_eq_getElem hiv

theorem NdGood.next (hng : ng ≤ 1000) {k fu j hk : Nat} {rl : List (Nat × Nat)} {A : List Value} {pt' : Pt} {d' : Nd} {vals' : List Value}
    (R : Right P E (lawG ng H0 W (nodeMu ng rows (vals ++ extras)))) (hok : okPt E ng pt = true)
    (hid : d.sub ng roc (idl ng d.objs) (idA hk) (d.st ng []) = true) (hlen : hk = vals.length)
    (hone : (vals ++ extras).all (·.oneCell') = true) (hrow : RowsHold W (nodeMu ng rows (vals ++ extras)) rows roc)
    (hrun : leafNext (fK E k fu pt (d.st ng roc) j) ng d' rl A = some pt')
    (hA : evL (nodeMu ng rows (vals ++ extras)) A = some vals') (hone' : vals'.all (·.oneCell') = true)
    (h : NdGood P fn ng H0 W pt' d' vals') : NdGood P fn ng H0 W pt d vals := by
  refine NdGood.reset (rows := rows) (extras := extras) hng hk hid hlen hone hrow ?_
  unfold leafNext at hrun
  split at hrun
  case h_2 => cases hrun
  case h_1 pt2 σ he =>
  split at hrun
  case h_2 => cases hrun
  case h_1 hs =>
  cases hrun
  refine Good.run R he hok ?_
  exact Good.sub hng hs hone' (evL_get hA) ⟨rfl, fun j p l hj => by cases hj⟩ h

theorem NdGood.fin (hng : ng ≤ 1000) {k fu j hk : Nat} 
    (R : Right P E (lawG ng H0 W (nodeMu ng rows (vals ++ extras)))) (hok : okPt E ng pt = true)
    (hid : d.sub ng roc (idl ng d.objs) (idA hk) (d.st ng []) = true) (hlen : hk = vals.length)
    (hone : (vals ++ extras).all (·.oneCell') = true) (hrow : RowsHold W (nodeMu ng rows (vals ++ extras)) rows roc)
    (hrun : leafFin E fn (fK E k fu pt (d.st ng roc) j) = true) : NdGood P fn ng H0 W pt d vals := by
  refine NdGood.reset (rows := rows) (extras := extras) hng hk hid hlen hone hrow ?_
  have key : ∀ (e : AEx) (σ : St), e = .normal ∨ e = .ret → fK E k fu pt (d.st ng roc) j = some (.out e [], σ) → (match resultsA E fn σ with | some (.bool b) => b | _ => false) = true →
      Good P (lawG ng H0 W (nodeMu ng rows (vals ++ extras))) (lawQ P fn W) pt (d.st ng roc) := by
    intro e σ he h1 h2
    split at h2
    · rename_i b hb
      subst h2
      refine Good.run R h1 hok (Good.fin R.T (R := fun _ _ e w => e = .returned (.bool true) ∧ Below W.heap.size W w) he hb ?_)
      rintro B W0 w hbel ⟨_, rfl, rfl⟩
      exact ⟨rfl, hbel⟩
    · cases h2
  unfold leafFin at hrun
  split at hrun
  · rename_i σ he; exact key .normal σ (.inl rfl) he hrun
  · rename_i σ he; exact key .ret σ (.inr rfl) he hrun
  · cases hrun
end

/-- A call of the law, from its first node. -/
theorem calls_of_node {P : Program} {ng : Nat} {gs : List Nat} {W : World} {fn : Func} {f : FuncId} {d : Nd} {vals : List Value} {args : List Value} {args' : Array Value} (hng : ng ≤ 1000) (hf : P.funcs[f]? = some fn) (hb0 : fn.body.isSome = true)
    (hlt : args.length ≤ fn.ntmps) (hc : ∀ g ∈ gs, g < ng ∧ ∃ x, W.cell? ⟨g, 0, none⟩ = some x ∧ x.oneCell' = true) (hone : vals.all (·.oneCell') = true)
    (hl : VL (nodeMu ng [] vals) args args'.toList) (hs : d.sub ng [] [] (idA vals.length) ⟨fn.ntmps, argTm args, firstHeap ng gs⟩ = true)
    (h : NdGood P fn ng (firstHeap ng gs) W (ptStart fn) d vals) : Calls P f args' W fun e W' => e = .returned (.bool true) ∧ Below W.heap.size W W' := by
  obtain ⟨c, hb⟩ := Option.isSome_iff_exists.1 hb0
  have hpt : ptStart fn = .run c [] := by simp [ptStart, hb]
  rw [hpt] at h
  have hsz : args'.size = args.length := by rw [hl.1]; simp
  refine calls_of_wp hf hb ?_
  have ha1 : ∀ k x, atomsOf vals k = some x → x.oneCell' = true ∧ ng ≤ k := by
    intro k x hk
    unfold atomsOf at hk
    split at hk
    · rw [List.all_eq_true] at hone
      exact ⟨hone x (List.mem_of_getElem? hk), by omega⟩
    · cases hk
  obtain ⟨μ, hr, hpl, hle⟩ := open_init (ng := ng) (gs := gs) W (a := ⟨atomsOf vals, []⟩) hc ha1 (fun r hr => by cases hr)
  have hr' : HR W.heap.size W μ (firstHeap ng gs) W := by
    refine hr.congr (fun v => ?_) rfl
    show (ptOf _).get v = (ptOf _).get v
    simp [argPairs]
  have hI := init_of W hc
  have hle' : (nodeMu ng [] vals).leV μ := by
    refine Mu.leV.trans ⟨fun v p hp => ?_, fun k x hk => hk⟩ hle
    simp only [nodeMu, List.getElem?_nil] at hp
    split at hp <;> cases hp
  have hgood : Good P (lawG ng (firstHeap ng gs) W (nodeMu ng [] vals)) (lawQ P fn W) (.run c []) ⟨fn.ntmps, argTm args, firstHeap ng gs⟩ := by
    refine Good.sub hng hs hone (fun i u hu => ?_) ⟨rfl, fun j p l hj => by cases hj⟩ h
    have hi : i < vals.length := by
      have := (List.getElem?_eq_some_iff.1 hu).1
      simpa [idA] using this
    have : u = .chan (some (1000 + i)) := by
      simp only [idA, List.getElem?_map, List.getElem?_range hi, Option.map_some, Option.some.injEq] at hu
      exact hu.symm
    subst this
    exact ⟨vals[i], by simp [evM, nodeMu, atomsOf, hi], List.getElem?_eq_getElem hi⟩
  refine hgood W.heap.size W μ _ W ?_ hr' ⟨hpl, ⟨hI, rfl, rfl⟩, hle'⟩
  refine ⟨by simp; omega, fun t => ?_, rfl⟩
  simp only [St.rd, argTm_get]
  rw [Array.getD_eq_getD_getElem?, Array.getElem?_append]
  cases hq : args[t]? with
  | none =>
    have : ¬ t < args'.size := by rw [hsz]; exact Nat.not_lt.2 (List.getElem?_eq_none_iff.1 hq)
    rw [if_neg this, Array.getElem?_replicate]
    show VR μ undefV _
    split <;> exact VR.undef
  | some x =>
    obtain ⟨x', h1, h2⟩ := hl.getElem? hq
    have : t < args'.size := by rw [hsz]; exact (List.getElem?_eq_some_iff.1 hq).1
    rw [if_pos this]
    rw [Array.getElem?_toList] at h1
    rw [h1]
    exact h2.monoV hle'
end Go.Vsx
