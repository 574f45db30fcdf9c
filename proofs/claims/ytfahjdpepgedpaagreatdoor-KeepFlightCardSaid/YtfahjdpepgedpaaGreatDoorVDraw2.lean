/- Regions that draw their order. -/
import Derived.Test.YtfahjdpepgedpaaGreatDoorVDraw1
set_option linter.all false
namespace Go.Vsx
open Go Go.RowKit

def okOps (ng : Nat) (ops : Array Oper) : Bool := ops.toList.all fun o => o.op.operands.toList.all (okOperand ng)

theorem okOps_spec {ng : Nat} {ops : Array Oper} (h : okOps ng ops = true) {i : Nat} {o : Oper} (ho : ops[i]? = some o) : ∀ x ∈ o.op.operands, okOperand ng x = true := by
  intro x hx
  simp only [okOps, List.all_eq_true] at h
  exact h o (by have := Array.mem_of_getElem? ho; simpa using this) x (by simpa using hx)

theorem wanted_at {μ : Mu} {σ : St} {a : Act} {ops : Array Oper} {o : Oper} {b : Bool} (h : ∀ t ∈ o.looksAt ops, VR μ (σ.rd t) (a.tmps.getD t undef)) (hw : wantedA ops.toList σ o = some b) : Region.wanted o (yielded ops a.tmps) = b := by
  unfold wantedA at hw
  unfold Region.wanted
  split at hw
  · rename_i hg; cases hw; rw [hg]
  · rename_i j want hg
    rw [hg]
    simp only [yielded]
    rw [Array.getElem?_toList] at hw
    split at hw
    · rename_i d hd
      rw [hd]
      have ht := h d (by simp [Oper.looksAt, hg, hd])
      split at hw
      · rename_i b' hb
        cases hw
        rw [hb] at ht
        generalize hx : a.tmps.getD d undef = x at ht
        cases ht
        have : a.tmps[d]? = some (.bool b') := by
          rw [Array.getD_eq_getD_getElem?] at hx
          cases hq : a.tmps[d]? with
          | none => rw [hq] at hx; simp [undef] at hx
          | some y => rw [hq] at hx; simp at hx; rw [hx]
        simp only [Option.bind_some, this]
        cases b' <;> cases want <;> rfl
      · rename_i vs hb
        cases hw
        rw [hb] at ht
        generalize hx : a.tmps.getD d undef = x at ht
        cases ht
        rename_i vs'
        rw [Array.getD_eq_getD_getElem?] at hx
        simp only [Option.bind_some]
        cases hq : a.tmps[d]? with
        | none => rfl
        | some y => rw [hq] at hx; simp at hx; rw [hx]; rfl
      · cases hw
    · rename_i hd
      cases hw
      rw [hd]
      rfl

theorem looks_ok {G : GS} {B : Nat} {W0 : World} {μ : Mu} {σ : St} {a : Act} {ops : Array Oper} {o : Oper} (h : ∀ t ∈ o.looksAt ops, VR μ (σ.rd t) (a.tmps.getD t undef)) (g : GOk G B W0 μ)
    {x : Operand} (hx : x ∈ o.op.operands) (ho : okOperand G.ng x = true) : VR μ (σ.ev x) (a.eval x) := by
  cases x with
  | tmp t => exact h t (List.mem_append_left _ (List.mem_filterMap.2 ⟨.tmp t, by simpa using hx, rfl⟩))
  | const v => exact plain_ok ho
  | global k =>
    obtain ⟨ex, e⟩ := g.1 k (by simpa [okOperand] using ho)
    exact .ptr k 0 ⟨k, 0, ex⟩ e
  | func f => exact .func _ _ _ _ _ rfl rfl (by intro i v v' hv; simp at hv) (by intro i v v' hv; simp at hv)

/-- What one operation makes of a heap. -/
def Makes (E : Env) (callF : FuncId → List Value → Heap → Option (Value × Heap)) (ops : List Oper) (σ : St) (o : Oper) (H : Heap) (v : Value) (H2 : Heap) : Prop :=
  (wantedA ops σ o = some false ∧ v = undefV ∧ H2 = H) ∨
  (wantedA ops σ o = some true ∧ (aop E σ.ev o H = some (.val v H2) ∨ ∃ f args, aop E σ.ev o H = some (.call f args) ∧ callF f args H = some (v, H2)))

theorem step_at {P : Program} {E : Env} {G : GS} {callF : FuncId → List Value → Heap → Option (Value × Heap)} (T : TyOk P E) (X : XOk P E G) (C : CallOk P G callF)
    {B : Nat} {W0 w : World} {μ : Mu} {σ : St} {a : Act} {ops : Array Oper} {i : Nat} {o : Oper} {Q : Exit → Act → World → Prop} {K : Act → World → Prop} {H H2 : Heap} {v : Value}
    (ho : ops[i]? = some o) (hok : ∀ x ∈ o.op.operands, okOperand G.ng x = true) (hl : ∀ t ∈ o.looksAt ops, VR μ (σ.rd t) (a.tmps.getD t undef))
    (h : Makes E callF ops.toList σ o H v H2) (hr : HR B W0 μ H w) (g : GOk G B W0 μ)
    (hK : ∀ μ' v' w', μ.le μ' → VR μ' v v' → HR B W0 μ' H2 w' → K (a.put o.dst v') w') : wpOp P ops Q i K a w := by
  unfold wpOp
  simp only [ho]
  rcases h with ⟨hw, rfl, rfl⟩ | ⟨hw, h⟩
  · rw [wanted_at hl hw]
    simp only [Bool.false_eq_true, if_false]
    exact hK μ _ w μ.le_refl VR.undef hr
  · rw [wanted_at hl hw]
    simp only [if_true]
    left
    unfold Oper.wp
    rcases h with ha | ⟨f, args, ha, hc⟩
    · obtain ⟨n, w', μ', v', h1, h2, h3, h4, h5⟩ := aop_on (P := P) (w := w) (B := B) (W0 := W0) (μ := μ) (ρ' := a.eval) T X.x (X.y.mono g.2.2) (fun x hx => looks_ok hl g hx (hok x hx)) hr ha
      rw [h1]
      cases n <;> simp only [got, reduceCtorEq, Option.some.injEq] at h4
      · subst h4; exact hK μ' _ w' h2 h5 h3
      · subst h4; exact hK μ' _ w' h2 h5 h3
    · obtain ⟨args', h1, h2⟩ := aop_on (P := P) (w := w) (B := B) (W0 := W0) (μ := μ) (ρ' := a.eval) T X.x (X.y.mono g.2.2) (fun x hx => looks_ok hl g hx (hok x hx)) hr ha
      obtain ⟨⟨fn, f1, f2, f3⟩, tc⟩ := C _ _ _ _ _ hc
      rw [h1, callFunc_enter f1 f2 f3]
      simp only [Oper.upon_enter]
      refine (tc B W0 μ w args' hr g h2).mono ?_
      rintro e w' ⟨μ', v', rfl, k1, k2, k3⟩
      exact hK μ' _ w' k1 k3 k2

theorem step_inv {E : Env} {callF : FuncId → List Value → Heap → Option (Value × Heap)} {ops : List Oper} {o : Oper} {σ σ' : St} (h : stepA E callF ops o σ = some σ') :
    ∃ v, Makes E callF ops σ o σ.H v σ'.H ∧ σ'.n = σ.n ∧ (∀ d, o.dst = some d → d < σ.n ∧ σ'.rd d = v) ∧ ∀ t, o.dst ≠ some t → σ'.rd t = σ.rd t := by
  have wr : ∀ {v H}, σ.wr o.dst v H = some σ' → σ'.H = H ∧ σ'.n = σ.n ∧ (∀ d, o.dst = some d → d < σ.n ∧ σ'.rd d = v) ∧ ∀ t, o.dst ≠ some t → σ'.rd t = σ.rd t := by
    intro v H hw
    unfold St.wr at hw
    split at hw
    · rename_i hd
      cases hw
      exact ⟨rfl, rfl, fun d e => (by rw [hd] at e; cases e), fun t _ => rfl⟩
    · rename_i d hd
      split at hw
      · rename_i hlt
        cases hw
        refine ⟨rfl, rfl, fun d' e => ?_, fun t ht => ?_⟩
        · rw [hd] at e; cases e
          refine ⟨by simpa using hlt, ?_⟩
          simp [St.rd, PT.get_set]
        · have : t ≠ d := fun e => ht (by rw [hd, e])
          simp [St.rd, PT.get_set, this]
      · cases hw
  unfold stepA at h
  split at h
  · cases h
  · rename_i hw
    obtain ⟨w1, w2, w3, w4⟩ := wr h
    exact ⟨undefV, .inl ⟨hw, rfl, w1⟩, w2, w3, w4⟩
  · rename_i hw
    split at h
    · rename_i v H2 ha
      obtain ⟨w1, w2, w3, w4⟩ := wr h
      exact ⟨v, .inr ⟨hw, .inl (w1 ▸ ha)⟩, w2, w3, w4⟩
    · rename_i f args ha
      split at h
      · rename_i v H2 hc
        obtain ⟨w1, w2, w3, w4⟩ := wr h
        exact ⟨v, .inr ⟨hw, .inr ⟨f, args, ha, w1 ▸ hc⟩⟩, w2, w3, w4⟩
      · cases h
    · cases h

theorem makes_reads {E : Env} {callF : FuncId → List Value → Heap → Option (Value × Heap)} {ops : List Oper} {o : Oper} {σ : St} {H H2 : Heap} {v : Value} (hr : readsOnly E o = true) (h : Makes E callF ops σ o H v H2) : H2 = H := by
  rcases h with ⟨_, _, e⟩ | ⟨_, h | ⟨f, args, h, _⟩⟩
  · exact e
  · obtain ⟨v', e⟩ := reads_same hr h; cases e; rfl
  · obtain ⟨v', e⟩ := reads_same hr h; cases e

theorem statesA_spec {E : Env} {callF : FuncId → List Value → Heap → Option (Value × Heap)} {ops : List Oper} : ∀ (l : List (Nat × Oper)) (σ : St) (ss : List St), statesA E callF ops l σ = some ss →
    ss.length = l.length + 1 ∧ ss[0]? = some σ ∧ (∀ i x, l[i]? = some x → ∃ s s', ss[i]? = some s ∧ ss[i + 1]? = some s' ∧ stepA E callF ops x.2 s = some s')
  | [], σ, ss, h => by
    simp only [statesA, Option.some.injEq] at h
    subst h
    exact ⟨rfl, rfl, fun i o ho => by simp at ho⟩
  | x :: l, σ, ss, h => by
    simp only [statesA] at h
    split at h
    case h_2 => cases h
    case h_1 σ1 h1 =>
    split at h
    case h_2 => cases h
    case h_1 l2 h2 =>
    cases h
    obtain ⟨e1, e2, e3⟩ := statesA_spec l σ1 l2 h2
    refine ⟨by simp [e1], rfl, fun i o ho => ?_⟩
    cases i with
    | zero =>
      simp only [List.getElem?_cons_zero, Option.some.injEq] at ho
      subst ho
      exact ⟨σ, σ1, rfl, by simpa using e2, h1⟩
    | succ i =>
      obtain ⟨s, s', k1, k2, k3⟩ := e3 i o (by simpa using ho)
      exact ⟨s, s', by simpa using k1, by simpa using k2, k3⟩

theorem lastA_get : ∀ (ss : List St) (s : St), lastA ss = some s → ss[ss.length - 1]? = some s
  | [], s, h => by simp [lastA] at h
  | [x], s, h => by simpa [lastA] using h
  | x :: y :: l, s, h => by
    simp only [lastA] at h
    have := lastA_get (y :: l) s h
    simpa using this

theorem effs_mem {E : Env} : ∀ (l : List Oper) (i j : Nat), j ∈ effs E l i ↔ ∃ o, i ≤ j ∧ l[j - i]? = some o ∧ readsOnly E o = false
  | [], i, j => by simp [effs]
  | o :: r, i, j => by
    have ih := effs_mem (E := E) r (i + 1) j
    have key : (∃ o', i ≤ j ∧ (o :: r)[j - i]? = some o' ∧ readsOnly E o' = false) ↔ (j = i ∧ readsOnly E o = false) ∨ ∃ o', i + 1 ≤ j ∧ r[j - (i + 1)]? = some o' ∧ readsOnly E o' = false := by
      constructor
      · rintro ⟨o', h1, h2, h3⟩
        rcases Nat.eq_or_lt_of_le h1 with e | e
        · subst e; simp at h2; subst h2; exact .inl ⟨rfl, h3⟩
        · refine .inr ⟨o', e, ?_, h3⟩
          have : j - i = (j - (i + 1)) + 1 := by omega
          rw [this] at h2; simpa using h2
      · rintro (⟨rfl, h⟩ | ⟨o', h1, h2, h3⟩)
        · exact ⟨o, Nat.le_refl _, by simp, h⟩
        · refine ⟨o', by omega, ?_, h3⟩
          have : j - i = (j - (i + 1)) + 1 := by omega
          rw [this]; simpa using h2
    rw [key, ← ih]
    simp only [effs]
    split
    · rename_i hr; simp [hr]
    · rename_i hr; simp [hr]

theorem epsOf_mem {E : Env} {fr : List Nat} : ∀ (l : List (Nat × Oper)) (k q i : Nat) (f : Bool), (q, i, f) ∈ epsOf E fr l k ↔ ∃ o, k ≤ q ∧ l[q - k]? = some (i, o) ∧ readsOnly E o = false ∧ f = fr.contains i
  | [], k, q, i, f => by simp [epsOf]
  | x :: r, k, q, i, f => by
    have ih := epsOf_mem (E := E) (fr := fr) r (k + 1) q i f
    have key : (∃ o, k ≤ q ∧ (x :: r)[q - k]? = some (i, o) ∧ readsOnly E o = false ∧ f = fr.contains i) ↔
        (q = k ∧ i = x.1 ∧ readsOnly E x.2 = false ∧ f = fr.contains x.1) ∨ ∃ o, k + 1 ≤ q ∧ r[q - (k + 1)]? = some (i, o) ∧ readsOnly E o = false ∧ f = fr.contains i := by
      constructor
      · rintro ⟨o, h1, h2, h3, h4⟩
        rcases Nat.eq_or_lt_of_le h1 with e | e
        · subst e
          simp only [Nat.sub_self, List.getElem?_cons_zero, Option.some.injEq] at h2
          subst h2
          exact .inl ⟨rfl, rfl, h3, h4⟩
        · refine .inr ⟨o, e, ?_, h3, h4⟩
          have : q - k = (q - (k + 1)) + 1 := by omega
          rw [this] at h2; simpa using h2
      · rintro (⟨rfl, rfl, h3, h4⟩ | ⟨o, h1, h2, h3, h4⟩)
        · exact ⟨x.2, Nat.le_refl _, by simp, h3, h4⟩
        · refine ⟨o, by omega, ?_, h3, h4⟩
          have : q - k = (q - (k + 1)) + 1 := by omega
          rw [this]; simpa using h2
    rw [key, ← ih]
    simp only [epsOf]
    split
    · rename_i hr; simp [hr]
    · rename_i hr; simp [hr, Prod.ext_iff]

theorem chkA_spec {E : Env} {ops : List Oper} {as fr : List Nat} {eps : List (Nat × Nat × Bool)} {cand : List Nat} {all : List St} : ∀ (l : List (Nat × Oper)) (ss : List St), chkA E ops as fr eps cand all l ss = true →
    ∀ (q : Nat) (x : Nat × Oper) (s : St), l[q]? = some x → ss[q]? = some s → wantedA ops s x.2 = some true →
    (readsOnly E x.2 = true → heapFree s.ev x.2 = false → ∀ p ∈ cand, allowedA as eps x.1 p = true → ∃ sp, all[p]? = some sp ∧ sameAtA E s x.2 sp.H = true) ∧
    (readsOnly E x.2 = false → fr.contains x.1 = true → ∃ v H', aop E s.ev x.2 s.H = some (.val v H') ∧ plainRow H' s.H.next = true)
  | [], ss, h => by intro q x s ho; simp at ho
  | x :: l, [], h => by intro q y s ho hs; simp at hs
  | x :: l, y :: ss, h => by
    simp only [chkA, Bool.and_eq_true] at h
    intro q x' s ho hs hw
    cases q with
    | zero =>
      simp only [List.getElem?_cons_zero, Option.some.injEq] at ho hs
      subst ho hs
      have h1 := h.1
      constructor
      · intro hro hf p hp ha
        rw [hro, hw, hf] at h1
        simp only [List.all_eq_true] at h1
        have := h1 p hp
        rw [ha] at this
        simp only [] at this
        split at this
        · rename_i sp hsp; exact ⟨sp, hsp, this⟩
        · cases this
      · intro hro hf
        rw [hro, hf, hw] at h1
        simp only [] at h1
        split at h1
        · rename_i v H' e; exact ⟨v, H', e, h1⟩
        · cases h1
    | succ q =>
      exact chkA_spec l ss h.2 q x' s (by simpa using ho) (by simpa using hs) hw

theorem fold_bits {acc : List Nat} {j : Nat} : ∀ (es : List Edge) (m : Nat), (es.foldl (fun m e => match Region.binds .any e with
      | true => m ||| (1 <<< e.on) ||| acc.getD e.on 0
      | false => m) m).testBit j = true → m.testBit j = true ∨ ∃ e ∈ es, Region.binds .any e = true ∧ (j = e.on ∨ (acc.getD e.on 0).testBit j = true)
  | [], m, h => .inl h
  | e :: es, m, h => by
    simp only [List.foldl_cons] at h
    rcases fold_bits es _ h with h1 | ⟨e', he, hb, h2⟩
    · split at h1
      · rename_i hb
        simp only [Nat.testBit_or, Bool.or_eq_true] at h1
        rcases h1 with (h1 | h1) | h1
        · exact .inl h1
        · refine .inr ⟨e, by simp, hb, .inl ?_⟩
          rw [Nat.one_shiftLeft, Nat.testBit_two_pow] at h1
          exact (of_decide_eq_true h1).symm
        · exact .inr ⟨e, by simp, hb, .inr h1⟩
      · exact .inl h1
    · exact .inr ⟨e', by simp [he], hb, h2⟩

/-- What an operation comes behind is listed. -/
theorem ancs_listed {ops : List Oper} {L : Nat → Prop} (hL : ∀ i o, ops[i]? = some o → L i → ∀ e ∈ o.after, Region.binds .any e = true → L e.on) :
    ∀ (l : List Oper) (acc : List Nat), ops.drop acc.length = l →
    (∀ k, k < acc.length → ∀ o, ops[k]? = some o → (∀ e ∈ o.after, Region.binds .any e = true → L e.on) → ∀ j, (acc.getD k 0).testBit j = true → L j) →
    ∀ k o, ops[k]? = some o → (∀ e ∈ o.after, Region.binds .any e = true → L e.on) → ∀ j, ((ancs l acc).getD k 0).testBit j = true → L j
  | [], acc, hd, h => by
    intro k o ho he j hj
    simp only [ancs] at hj
    refine h k ?_ o ho he j hj
    have h1 : k < ops.length := (List.getElem?_eq_some_iff.1 ho).1
    have h2 := List.drop_eq_nil_iff.1 hd
    omega
  | x :: l, acc, hd, h => by
    simp only [ancs]
    refine ancs_listed hL l _ ?_ ?_
    · simp only [List.length_append, List.length_singleton]
      rw [← List.drop_drop, hd]; rfl
    · intro k hk o ho he j hj
      simp only [List.length_append, List.length_singleton] at hk
      rcases Nat.lt_or_ge k acc.length with hlt | hge
      · refine h k hlt o ho he j ?_
        simpa [List.getElem?_append_left hlt] using hj
      · have hk2 : k = acc.length := by omega
        have hx : ops[k]? = some x := by
          have : (ops.drop acc.length)[0]? = some x := by rw [hd]; rfl
          rw [List.getElem?_drop] at this
          simpa [hk2] using this
        rw [hx] at ho
        cases ho
        simp only [List.getD_eq_getElem?_getD, hk2, List.getElem?_concat_length, Option.getD_some] at hj
        rcases fold_bits _ _ hj with h1 | ⟨e, he1, hb, rfl | h2⟩
        · simp at h1
        · exact he e (by simpa using he1) hb
        · have hLe := he e (by simpa using he1) hb
          rcases Nat.lt_or_ge e.on acc.length with hlt | hge
          · obtain ⟨oe, hoe⟩ : ∃ oe, ops[e.on]? = some oe := by
              have : e.on < ops.length := by
                have := (List.getElem?_eq_some_iff.1 hx).1
                omega
              exact ⟨_, List.getElem?_eq_getElem this⟩
            exact h e.on hlt oe hoe (hL e.on oe hoe hLe) j (by simpa using h2)
          · simp [List.getElem?_eq_none hge] at h2
end Go.Vsx
