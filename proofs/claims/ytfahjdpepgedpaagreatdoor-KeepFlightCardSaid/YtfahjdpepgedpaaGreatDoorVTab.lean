/- The first heap with tables: package variables whose cells are known numbers. -/
import Derived.Test.YtfahjdpepgedpaaGreatDoorVLeaf
import Derived.Lib.LaidU8
import Derived.ChangeArms
import Derived.OpenShut
set_option linter.all false
namespace Go.Vsx
open Go Go.RowKit

noncomputable def tabRow (l : List Value) : AObj := .row ⟨l, l.length, 0, 1, true, false, false⟩
noncomputable def firstHeapT (ng : Nat) (gs : List Nat) (gt : List (Nat × List Value)) : Heap :=
  ⟨ng, ptOf ((gs.map fun g => (g, AObj.row ⟨[.chan (some g)], 1, 0, 1, true, false, false⟩)) ++ gt.map fun x => (x.1, tabRow x.2))⟩

theorem firstHeapT_get {ng : Nat} {gs : List Nat} {gt : List (Nat × List Value)} {v : Nat} {o : AObj} (h : (firstHeapT ng gs gt).get v = some o) :
    (v ∈ gs ∧ o = .row ⟨[.chan (some v)], 1, 0, 1, true, false, false⟩) ∨ ∃ l, (v, l) ∈ gt ∧ o = tabRow l := by
  have := ptOf_mem _ _ _ h
  rcases List.mem_append.1 this with h | h
  · obtain ⟨g, hg, e⟩ := List.mem_map.1 h
    injection e with e1 e2
    subst e1
    exact .inl ⟨hg, e2.symm⟩
  · obtain ⟨x, hx, e⟩ := List.mem_map.1 h
    injection e with e1 e2
    subst e1
    exact .inr ⟨x.2, hx, e2.symm⟩

theorem firstHeapT_ro (ng : Nat) (gs : List Nat) (gt : List (Nat × List Value)) : roHeap (firstHeapT ng gs gt) := by
  intro v o h
  rcases firstHeapT_get h with ⟨_, rfl⟩ | ⟨l, _, rfl⟩ <;> rfl

/-- What is asked of the package variables in the first world. -/
structure Globs (W : World) (ng : Nat) (gs : List Nat) (gt : List (Nat × List Value)) : Prop where
  one : ∀ g ∈ gs, g < ng ∧ ∃ x, W.cell? ⟨g, 0, none⟩ = some x ∧ x.oneCell' = true
  tab : ∀ x ∈ gt, x.1 < ng ∧ (∃ y, W.cell? ⟨x.1, 0, none⟩ = some y) ∧ ∀ (i : Nat) v, x.2[i]? = some v → plainC v = true ∧ W.cell? ⟨x.1, i, none⟩ = some v

theorem initT {ng : Nat} {gs : List Nat} {gt : List (Nat × List Value)} (hng : ng ≤ 1000) (W : World) (h : Globs W ng gs gt) (at1 : Nat → Option Value) (h1 : ∀ k x, at1 k = some x → x.oneCell' = true ∧ 1000 ≤ k) :
    ∃ μ : Mu, HR W.heap.size W μ (firstHeapT ng gs gt) W ∧ (∀ g, g < ng → ∃ ex, μ.pl g = some ⟨g, 0, ex⟩) ∧ (∀ b, μ.kp b = none) ∧ ∀ k x, at1 k = some x → μ.at_ k = some x := by
  have blk : ∀ (g : Nat) x, W.cell? ⟨g, 0, none⟩ = some x → ∃ c e fr, W.heap[g]? = some (.cells c e fr) ∧ ∀ i, W.cell? ⟨g, i, none⟩ = c[i]? := by
    intro g x hx
    unfold World.cell? at hx
    simp only at hx
    split at hx
    · rename_i c e fr hh
      exact ⟨c, e, fr, hh, fun i => by simp [World.cell?, hh]⟩
    · simp at hx
  refine ⟨⟨fun v => if v < ng then some ⟨v, 0, 0⟩ else none, fun k => if k ∈ gs then W.cell? ⟨k, 0, none⟩ else at1 k, fun _ => none⟩, ?_, fun g hg => ⟨0, by simp [hg]⟩, fun _ => rfl, fun k x hk => ?_⟩
  · refine { below := Below.refl _ W, base := Nat.le_refl _, fresh := ?_, atoms := ?_, obj := ?_, inj := ?_, kept := ?_, aprt := ?_ }
    · intro v hv
      have : ¬ v < ng := Nat.not_lt.2 hv
      simp [this]
    · intro k x hk
      simp only at hk
      split at hk
      · rename_i hm
        obtain ⟨_, y, hy, ho⟩ := h.one k hm
        rw [hy] at hk; cases hk; exact ho
      · exact (h1 k x hk).1
    · intro v o hv
      rcases firstHeapT_get hv with ⟨hm, rfl⟩ | ⟨l, hm, rfl⟩
      · obtain ⟨hlt, x, hx, ho⟩ := h.one v hm
        obtain ⟨c, e, fr, hh, hc⟩ := blk v x hx
        refine ⟨⟨v, 0, 0⟩, by simp [hlt], ⟨c, e, fr, hh, ?_, fun k => by cases k⟩, fun k => (by cases k), fun _ => (Array.getElem?_eq_some_iff.1 hh).1⟩
        intro i y hy
        cases i with
        | zero =>
          simp at hy
          subst hy
          refine ⟨x, ?_, .atom v x (by simp [hm, hx])⟩
          rw [← hc]; simpa using hx
        | succ i => simp at hy
      · obtain ⟨hlt, ⟨x, hx⟩, ht⟩ := h.tab _ hm
        obtain ⟨c, e, fr, hh, hc⟩ := blk v x hx
        refine ⟨⟨v, 0, 0⟩, by simp [hlt], ⟨c, e, fr, hh, ?_, fun k => by cases k⟩, fun k => (by cases k), fun _ => (Array.getElem?_eq_some_iff.1 hh).1⟩
        intro i y hy
        obtain ⟨k1, k2⟩ := ht i y hy
        refine ⟨y, ?_, plain_ok k1⟩
        have := hc i
        simp only [Nat.zero_add]
        rw [← this]; exact k2
    · intro v v' o o' p p' a b k
      rw [firstHeapT_ro ng gs gt v o a] at k; cases k
    · intro b O e; cases e
    · intro v o p a k
      rw [firstHeapT_ro ng gs gt v o a] at k; cases k
  · have : k ∉ gs := fun hm => by
      have := (h.one k hm).1
      have := (h1 k x hk).2
      omega
    simp only [this, if_false]; exact hk

theorem init_ofT {ng : Nat} {gs : List Nat} {gt : List (Nat × List Value)} (hng : ng ≤ 1000) (W : World) (h : Globs W ng gs gt) : Init ng (firstHeapT ng gs gt) W.heap.size W := by
  obtain ⟨μ, a, b, c, _⟩ := initT hng W h (fun _ => none) (fun k x hk => by cases hk)
  exact ⟨μ, b, c, a⟩

/-- A call of the law, from its first node. -/
theorem calls_of_nodeT {P : Program} {ng : Nat} {gs : List Nat} {gt : List (Nat × List Value)} {W : World} {fn : Func} {f : FuncId} {d : Nd} {vals : List Value} {args : List Value} {args' : Array Value} (hng : ng ≤ 1000) (hf : P.funcs[f]? = some fn) (hb0 : fn.body.isSome = true)
    (hlt : args.length ≤ fn.ntmps) (hc : Globs W ng gs gt) (hone : vals.all (·.oneCell') = true)
    (hl : VL (nodeMu ng [] vals) args args'.toList) (hs : d.sub ng [] [] (idA vals.length) ⟨fn.ntmps, argTm args, firstHeapT ng gs gt⟩ = true)
    (h : NdGood P fn ng (firstHeapT ng gs gt) W (ptStart fn) d vals) : Calls P f args' W fun e W' => e = .returned (.bool true) ∧ Below W.heap.size W W' := by
  obtain ⟨c, hb⟩ := Option.isSome_iff_exists.1 hb0
  have hpt : ptStart fn = .run c [] := by simp [ptStart, hb]
  rw [hpt] at h
  have hsz : args'.size = args.length := by rw [hl.1]; simp
  refine calls_of_wp hf hb ?_
  have ha1 : ∀ k x, atomsOf vals k = some x → x.oneCell' = true ∧ 1000 ≤ k := by
    intro k x hk
    unfold atomsOf at hk
    split at hk
    · rename_i h1
      rw [List.all_eq_true] at hone
      exact ⟨hone x (List.mem_of_getElem? hk), h1⟩
    · cases hk
  obtain ⟨μ, hr, hpl, _, hle⟩ := initT hng W hc (atomsOf vals) ha1
  have hI := init_ofT hng W hc
  have hle' : (nodeMu ng [] vals).leV μ := by
    refine ⟨fun v p hp => ?_, fun k x hk => hle k x hk⟩
    simp only [nodeMu, List.getElem?_nil] at hp
    split at hp <;> cases hp
  have hgood : Good P (lawG ng (firstHeapT ng gs gt) W (nodeMu ng [] vals)) (lawQ P fn W) (.run c []) ⟨fn.ntmps, argTm args, firstHeapT ng gs gt⟩ := by
    refine Good.sub hng hs hone (fun i u hu => ?_) ⟨rfl, fun j p l hj => by cases hj⟩ h
    have hi : i < vals.length := by
      have := (List.getElem?_eq_some_iff.1 hu).1
      simpa [idA] using this
    have : u = .chan (some (1000 + i)) := by
      simp only [idA, List.getElem?_map, List.getElem?_range hi, Option.map_some, Option.some.injEq] at hu
      exact hu.symm
    subst this
    exact ⟨vals[i], by simp [evM, nodeMu, atomsOf, hi], List.getElem?_eq_getElem hi⟩
  refine hgood W.heap.size W μ _ W ?_ hr ⟨hpl, ⟨hI, rfl, rfl⟩, hle'⟩
  refine ⟨by simp; omega, fun t => ?_, rfl⟩
  simp only [St.rd, argTm_get]
  rw [Array.getD_eq_getD_getElem?, Array.getElem?_append]
  cases hq : args[t]? with
  | none =>
    have : ¬ t < args'.size := by rw [hsz]; exact Nat.not_lt.2 (List.getElem?_eq_none_iff.1 hq)
    rw [if_neg this, Array.getElem?_replicate]
    show VR μ undefV _
    split <;> exact VR.undef
  | some x =>
    obtain ⟨x', h1, h2⟩ := hl.getElem? hq
    have : t < args'.size := by rw [hsz]; exact (List.getElem?_eq_some_iff.1 hq).1
    rw [if_pos this]
    rw [Array.getElem?_toList] at h1
    rw [h1]
    exact h2.monoV hle'

/-- A closed law. -/
theorem closed_okT {P : Program} {E : Env} {ng : Nat} {gs : List Nat} {gt : List (Nat × List Value)} {f : FuncId} {n : Nat} {b : Bool} (hng : ng ≤ 1000) (C : CallOk P (initGS ng (firstHeapT ng gs gt)) (callE E (execC E n)))
    (h : answers (fCall E n f [] (firstHeapT ng gs gt)) b = true) (W : World) (hc : Globs W ng gs gt) :
    Calls P f #[] W fun e W' => e = .returned (.bool b) ∧ Below W.heap.size W W' := by
  obtain ⟨H1, h1⟩ := of_answers h
  rw [fCall_eq] at h1
  have hI := init_ofT hng W hc
  obtain ⟨μ0, h2, h3, hr⟩ := hI
  refine ((C f [] _ _ H1 h1).2 W.heap.size W μ0 W #[] hr ⟨h2, ⟨μ0, h2, h3, hr⟩, noMu_le _⟩ VL.nil).mono ?_
  rintro e W' ⟨μ', v', rfl, _, hr', hv⟩
  cases hv
  exact ⟨rfl, hr'.below⟩

/-- A table of numbers, as the row tells what it reads. -/
theorem tab_cells {P : Program} {W : World} {n : String} {g m : Nat} {t e : TypeId} {k : IntKind} {l : List Int} (hg : P.globalNamed n = some g) (ht : (P.globals[g]?).map (·.type) = some t) (hu : P.underlying t = some (.array m e)) (he : P.underlying e = some (.int k)) (hc : P.cellsOf e = 1)
    (h : Lib.VarReads P W n (.agg (l.map fun c => .lit (.int k c)))) : ∀ (i : Nat) c, l[i]? = some c → W.cell? ⟨g, i, none⟩ = some (.int k c) := by
  obtain ⟨g', t', cs, fuel, p, h1, h2, h3, h4⟩ := h
  obtain rfl := Option.some.inj (hg.symm.trans h1)
  obtain rfl := Option.some.inj (ht.symm.trans h2)
  intro i c hi
  have hv := World.var?_cell hg h3 i
  rw [hv]
  obtain ⟨xs, q, rfl, hx, hl, hn, ha⟩ := DataW.trod_array hu h4
  rw [hc] at ha
  simp only [Prod.mk.injEq, DataW.agg.injEq] at hx
  have hlen : l.length = xs.length := by
    have := congrArg List.length hx.1
    simpa using this
  have hlt : i < l.length := (List.getElem?_eq_some_iff.1 hi).1
  have h5 := ha i (by omega)
  have hxi : i < xs.length := by omega
  rw [List.getElem?_eq_getElem hxi] at h5
  obtain ⟨z, k1, k2, _⟩ := DataW.trod_int he h5
  have h6 : (l.map fun c => DataW.lit (.int k c))[i]? = (xs.map (·.1))[i]? := by rw [hx.1]
  rw [List.getElem?_map, List.getElem?_map, hi, List.getElem?_eq_getElem hxi, k2] at h6
  simp only [Option.map_some, Option.some.injEq, DataW.lit.injEq, Lit.int.injEq, true_and] at h6
  subst h6
  have h7 : (cs.toList.drop i)[0]? = some (.int k c) := by
    have := congrArg (fun l : List Value => l[0]?) k1
    simpa using this
  rw [List.getElem?_drop] at h7
  simpa using h7
theorem tab_one {W : World} {g ng : Nat} {k : IntKind} {l : List Int} {x : Int} (h : ∀ (i : Nat) c, (x :: l)[i]? = some c → W.cell? ⟨g, i, none⟩ = some (.int k c)) (hg : g < ng) :
    (g, (x :: l).map (Value.int k)).1 < ng ∧ (∃ y, W.cell? ⟨(g, (x :: l).map (Value.int k)).1, 0, none⟩ = some y) ∧ ∀ (i : Nat) v, (g, (x :: l).map (Value.int k)).2[i]? = some v → plainC v = true ∧ W.cell? ⟨(g, (x :: l).map (Value.int k)).1, i, none⟩ = some v := by
  refine ⟨hg, ⟨_, h 0 x rfl⟩, fun i v hv => ?_⟩
  simp only [List.getElem?_map, Option.map_eq_some_iff] at hv
  obtain ⟨c, h1, rfl⟩ := hv
  exact ⟨rfl, h i c h1⟩
end Go.Vsx
