/- Regions that draw their order: from the executor's checks. -/
import Derived.Test.YtfahjdpepgedpaaGreatDoorVDraw4
set_option linter.all false
namespace Go.Vsx
open Go Go.RowKit

theorem items_get : ∀ (l : List Oper) (k q : Nat), (items l k)[q]? = (l[q]?).map fun o => (k + q, o)
  | [], k, q => by simp [items]
  | o :: r, k, q => by
    cases q with
    | zero => simp [items]
    | succ q =>
      simp only [items, List.getElem?_cons_succ]
      rw [items_get r (k + 1) q]
      congr 1; funext o'; congr 1; omega

theorem canon_mem {as fr : List Nat} {x : Nat × Oper} : ∀ (l held : List (Nat × Oper)), x ∈ canon as fr l held → x ∈ l ∨ x ∈ held
  | [], held, h => .inr h
  | y :: r, held, h => by
    simp only [canon] at h
    split at h
    · rcases canon_mem r _ h with h | h
      · exact .inl (by simp [h])
      · rcases List.mem_append.1 h with h | h
        · exact .inr h
        · simp at h; exact .inl (by simp [h])
    · rcases List.mem_append.1 h with h | h
      · exact .inr (List.mem_filter.1 h).1
      · rcases List.mem_cons.1 h with h | h
        · exact .inl (by simp [h])
        · rcases canon_mem r _ h with h | h
          · exact .inl (by simp [h])
          · exact .inr (List.mem_filter.1 h).1

theorem planOf_mem {ops : List Oper} {as fr : List Nat} {x : Nat × Oper} (h : x ∈ planOf ops as fr) : ops[x.1]? = some x.2 := by
  have key : ∀ x, x ∈ items ops 0 → ops[x.1]? = some x.2 := by
    intro x hx
    obtain ⟨q, hq⟩ := List.getElem?_of_mem hx
    rw [items_get] at hq
    simp only [Option.map_eq_some_iff] at hq
    obtain ⟨o, h1, rfl⟩ := hq
    simpa using h1
  unfold planOf at h
  split at h
  · exact key x h
  · rcases canon_mem _ _ h with h | h
    · exact key x h
    · simp at h

theorem allOk_spec {E : Env} {ops : Array Oper} {as fr : List Nat} : ∀ (l done : List (Nat × Oper)), allOk E ops as fr done l = true →
    ∀ (q : Nat) (x : Nat × Oper), l[q]? = some x → (∀ e ∈ x.2.after, Region.binds .any e = true → ∃ (q' : Nat) (y : Nat × Oper), q' < done.length + q ∧ (done ++ l)[q']? = some y ∧ y.1 = e.on) ∧
      ∀ (q' : Nat) (y : Nat × Oper), q' < done.length + q → (done ++ l)[q']? = some y → y.1 ≠ x.1 ∧ pairOk E ops as fr x y = true
  | [], done, h => by intro q x hx; simp at hx
  | x :: r, done, h => by
    simp only [allOk, Bool.and_eq_true, List.all_eq_true, Bool.or_eq_true, Bool.not_eq_true', List.any_eq_true] at h
    obtain ⟨⟨h1, h2⟩, h3⟩ := h
    have h2 : ∀ y ∈ done, y.1 ≠ x.1 ∧ pairOk E ops as fr x y = true := fun y hy => ⟨Nat.ne_of_beq_eq_false (h2 y hy).1, (h2 y hy).2⟩
    have ih := allOk_spec r (done ++ [x]) h3
    have happ : done ++ [x] ++ r = done ++ x :: r := by simp
    intro q x' hx
    cases q with
    | zero =>
      simp only [List.getElem?_cons_zero, Option.some.injEq] at hx
      subst hx
      constructor
      · intro e he hb
        rcases h1 e (by simpa using he) with h | ⟨y, hy, hye⟩
        · rw [hb] at h; cases h
        · obtain ⟨q', hq'⟩ := List.getElem?_of_mem hy
          have hlt := (List.getElem?_eq_some_iff.1 hq').1
          exact ⟨q', y, by omega, by rw [List.getElem?_append_left hlt]; exact hq', Nat.eq_of_beq_eq_true hye⟩
      · intro q' y hlt hy
        rw [List.getElem?_append_left (by omega)] at hy
        exact h2 y (List.mem_of_getElem? hy)
    | succ q =>
      obtain ⟨i1, i2⟩ := ih q x' (by simpa using hx)
      rw [happ] at i1 i2
      simp only [List.length_append, List.length_singleton] at i1 i2
      refine ⟨fun e he hb => ?_, fun q' y hlt hy => i2 q' y (by omega) hy⟩
      obtain ⟨q', y, a, b, c⟩ := i1 e he hb
      exact ⟨q', y, by omega, b, c⟩

theorem lookOk_spec {E : Env} {ops : Array Oper} {as fr : List Nat} : ∀ (l done : List (Nat × Oper)), lookOk E ops as fr done l = true →
    ∀ (q : Nat) (x : Nat × Oper), l[q]? = some x → fr.contains x.1 = true → ∀ (q2 : Nat) (z : Nat × Oper), q < q2 → l[q2]? = some z → z.2.apart ops x.2 = false →
      ∀ (q' : Nat) (y : Nat × Oper), q' < done.length + q → (done ++ l)[q']? = some y → readsOnly E y.2 = false → ancB as z.1 y.1 = true
  | [], done, h => by intro q x hx; simp at hx
  | x :: r, done, h => by
    simp only [lookOk, Bool.and_eq_true] at h
    obtain ⟨h1, h2⟩ := h
    have ih := lookOk_spec r (done ++ [x]) h2
    have happ : done ++ [x] ++ r = done ++ x :: r := by simp
    intro q x' hx hf q2 z hlt hz hap q' y hq' hy hr
    cases q with
    | zero =>
      simp only [List.getElem?_cons_zero, Option.some.injEq] at hx
      subst hx
      rw [hf] at h1
      simp only [List.all_eq_true, Bool.or_eq_true] at h1
      have hzr : z ∈ r := by
        cases q2 with
        | zero => omega
        | succ q2 => exact List.mem_of_getElem? (by simpa using hz)
      rcases h1 z hzr with h | h
      · rw [hap] at h; cases h
      · rw [List.getElem?_append_left (by omega)] at hy
        rcases h y (List.mem_of_getElem? hy) with h | h
        · rw [hr] at h; cases h
        · exact h
    | succ q =>
      cases q2 with
      | zero => omega
      | succ q2 =>
        refine ih q x' (by simpa using hx) hf q2 z (by omega) (by simpa using hz) hap q' y ?_ (by rw [happ]; exact hy) hr
        simp only [List.length_append, List.length_singleton]; omega

theorem pairwise_of {l : List Nat} (h : ∀ i, i < l.length → i ∈ l) (hd : ∀ (q q' : Nat) (i i' : Nat), q' < q → l[q]? = some i → l[q']? = some i' → i' ≠ i) : ∃ pos : Nat → Nat, (∀ i, i < l.length → pos i < l.length ∧ l[pos i]? = some i) ∧ ∀ q i, l[q]? = some i → pos i = q := by
  have h1 : ∀ i, i ∈ l → l.idxOf i < l.length ∧ l[l.idxOf i]? = some i := by
    intro i hm
    have hlt := List.idxOf_lt_length_of_mem hm
    refine ⟨hlt, ?_⟩
    rw [List.getElem?_eq_getElem hlt, List.getElem_idxOf hlt]
  refine ⟨fun i => l.idxOf i, fun i hi => h1 i (h i hi), fun q i hq => ?_⟩
  obtain ⟨_, e⟩ := h1 i (List.mem_of_getElem? hq)
  rcases Nat.lt_trichotomy (l.idxOf i) q with hh | hh | hh
  · exact absurd rfl (hd q _ i i hh hq e)
  · exact hh
  · exact absurd rfl (hd _ q i i hh e hq)

theorem drawn_of {E : Env} {callF : FuncId → List Value → Heap → Option (Value × Heap)} {ops : Array Oper} {σ σ' : St} {es : List Nat} (hes : effs E ops.toList 0 = es) (hst : drawOk E ops = true)
    (h : drawB E callF ops.toList (ancs ops.toList []) (freesOf ops.toList (ancs ops.toList []) es) (planOf ops.toList (ancs ops.toList []) (freesOf ops.toList (ancs ops.toList []) es))
      (epsOf E (freesOf ops.toList (ancs ops.toList []) es) (planOf ops.toList (ancs ops.toList []) (freesOf ops.toList (ancs ops.toList []) es)) 0) σ = some σ') :
    ∃ (st : Nat → St) (anc : Nat → Nat → Prop) (pos : Nat → Nat) (fr : Nat → Bool), Drawn E callF ops st anc pos fr ∧ st 0 = σ ∧ st ops.size = σ' := by
  simp only [drawOk] at hst
  rw [hes] at hst
  generalize has : ancs ops.toList [] = as at *
  generalize hfr : freesOf ops.toList as es = fr at *
  have hmem : ∀ x, x ∈ planOf ops.toList as fr → ops.toList[x.1]? = some x.2 := fun x hx => planOf_mem hx
  generalize hits : planOf ops.toList as fr = its at *
  simp only [Bool.and_eq_true, List.all_eq_true, List.mem_range, List.any_eq_true] at hst
  obtain ⟨⟨⟨t1, t2⟩, t3⟩, t4⟩ := hst
  have hlen : its.length = ops.size := by have := Nat.eq_of_beq_eq_true t1; simpa using this
  have hcover : ∀ i, i < (its.map (·.1)).length → i ∈ its.map (·.1) := by
    intro i hi
    obtain ⟨x, hx, he⟩ := t2 i (by simpa [hlen] using hi)
    exact List.mem_map.2 ⟨x, hx, Nat.eq_of_beq_eq_true he⟩
  obtain ⟨pos, p1, p2⟩ := pairwise_of hcover (by
    intro q q' i i' hlt hq hq'
    rw [List.getElem?_map, Option.map_eq_some_iff] at hq hq'
    obtain ⟨x, hx, rfl⟩ := hq
    obtain ⟨y, hy, rfl⟩ := hq'
    exact ((allOk_spec its [] t3 q x hx).2 q' y (by simpa using hlt) (by simpa using hy)).1)
  simp only [List.length_map, hlen] at p1
  have get : ∀ i o, ops[i]? = some o → its[pos i]? = some (i, o) := by
    intro i o ho
    have hi := lt_of ho
    obtain ⟨_, hq⟩ := p1 i hi
    rw [List.getElem?_map, Option.map_eq_some_iff] at hq
    obtain ⟨x, hx, rfl⟩ := hq
    have := hmem x (List.mem_of_getElem? hx)
    rw [Array.getElem?_toList, ho] at this
    rw [hx]
    injection this with this
    rw [this]
  have getq : ∀ q x, its[q]? = some x → ops[x.1]? = some x.2 ∧ pos x.1 = q := by
    intro q x hx
    refine ⟨by have := hmem x (List.mem_of_getElem? hx); rwa [Array.getElem?_toList] at this, p2 q x.1 (by rw [List.getElem?_map, hx]; rfl)⟩
  unfold drawB at h
  split at h
  · cases h
  rename_i ss hss
  split at h
  case h_2 => cases h
  rename_i hchk
  obtain ⟨s1, s2, s3⟩ := statesA_spec _ _ _ hss
  have hsize : ss.length = ops.size + 1 := by rw [s1, hlen]
  let st : Nat → St := fun i => ss.getD i σ
  have hget : ∀ i, i ≤ ops.size → ss[i]? = some (st i) := by
    intro i hi
    have : i < ss.length := by omega
    simp [st, this]
  have hsome : ∀ i s, ss[i]? = some s → st i = s := by
    intro i s e
    simp [st, e]
  have spec := fun i o (ho : ops[i]? = some o) => allOk_spec its [] t3 (pos i) (i, o) (get i o ho)
  have cspec := fun i o (ho : ops[i]? = some o) (hw : wantedA ops.toList (st (pos i)) o = some true) =>
    chkA_spec its ss hchk (pos i) (i, o) (st (pos i)) (get i o ho) (hget _ (Nat.le_of_lt (p1 i (lt_of ho)).1)) hw
  refine ⟨st, fun i j => ancB as i j = true, pos, fun i => fr.contains i, ⟨fun i hi => (p1 i hi).1, ?_, ?_, ?_, ?_, ?_, ?_, ?_, ?_, ?_, ?_⟩, hsome 0 σ s2, ?_⟩
  · intro i j hi hj e
    have h1 := (p1 i hi).2
    have h2 := (p1 j hj).2
    rw [e] at h1
    rw [h1] at h2; cases h2; rfl
  · intro q hq
    have : q < its.length := by omega
    obtain ⟨h1, h2⟩ := getq q its[q] (List.getElem?_eq_getElem this)
    exact ⟨_, lt_of h1, h2⟩
  · intro i o ho
    obtain ⟨s, s', k1, k2, k3⟩ := s3 (pos i) (i, o) (get i o ho)
    rw [hsome _ _ k1, hsome _ _ k2]; exact k3
  · intro i o ho e he hb
    obtain ⟨q', y, a, b, c⟩ := (spec i o ho).1 e he hb
    simp only [List.length_nil, Nat.zero_add, List.nil_append] at a b
    obtain ⟨g1, g2⟩ := getq q' y b
    rw [← c]
    exact ⟨lt_of g1, by omega⟩
  · intro i j oi oj hlt hi hj
    have := ((spec i oi hi).2 (pos j) (j, oj) (by simpa using hlt) (by simpa using get j oj hj)).2
    simp only [pairOk, Bool.or_eq_true, Bool.and_eq_true] at this
    rcases this with h | ⟨h1, (h2 | h2) | h2⟩
    · exact .inl h
    · exact .inr ⟨h1, .inl h2⟩
    · exact .inr ⟨h1, .inr (.inl h2)⟩
    · exact .inr ⟨h1, .inr (.inr h2)⟩
  · intro L hL k o hk he j hj
    refine ancs_listed (ops := ops.toList) (L := L) (fun i o ho => hL i o (by simpa using ho)) ops.toList [] (by simp) (by intro k hk; simp at hk) k o (by simpa using hk) he j ?_
    rw [has]; exact hj
  · intro i o ho hf
    have hin : i ∈ fr := by simpa using hf
    rw [← hfr] at hin
    unfold freesOf at hin
    obtain ⟨h1, h2⟩ := List.mem_filter.1 hin
    rw [← hes] at h1
    obtain ⟨o', _, h3, h4⟩ := (effs_mem _ _ _).1 h1
    simp only [Nat.sub_zero, Array.getElem?_toList, ho, Option.some.injEq] at h3
    subst h3
    simp only [Array.getElem?_toList, ho, Bool.and_eq_true] at h2
    exact ⟨h4, h2.1⟩
  · intro i o ho hf hw
    have hro : readsOnly E o = false := by
      have hin : i ∈ fr := by simpa using hf
      rw [← hfr] at hin
      unfold freesOf at hin
      obtain ⟨h1, h2⟩ := List.mem_filter.1 hin
      rw [← hes] at h1
      obtain ⟨o', _, h3, h4⟩ := (effs_mem _ _ _).1 h1
      simp only [Nat.sub_zero, Array.getElem?_toList, ho, Option.some.injEq] at h3
      subst h3
      exact h4
    exact (cspec i o ho hw).2 hro hf
  · intro i j oi oj hi hj hf hlt hap k ok hk hkl hro
    exact lookOk_spec its [] t4 (pos j) (j, oj) (get j oj hj) hf (pos i) (i, oi) hlt (get i oi hi) hap (pos k) (k, ok) (by simpa using hkl) (by simpa using get k ok hk) hro
  · intro i o ho hro hw hf p hp hall
    obtain ⟨sp, h1, h2⟩ := (cspec i o ho hw).1 hro hf p (by
      rcases hp with h | ⟨j, oj, e, hj, he⟩
      · rw [h, ← hlen]; simp
      · refine List.mem_append_left _ (List.mem_map.2 ⟨(pos j, j, fr.contains j), (epsOf_mem _ _ _ _ _).2 ⟨oj, Nat.zero_le _, get j oj hj, he, rfl⟩, e.symm⟩)) (by
      unfold allowedA
      rw [List.all_eq_true]
      rintro ⟨q, j, f⟩ hj
      obtain ⟨oj, _, hg, her, hfj⟩ := (epsOf_mem _ _ _ _ _).1 hj
      simp only [Nat.sub_zero] at hg
      obtain ⟨g1, g2⟩ := getq q (j, oj) hg
      simp only at g1 g2
      obtain ⟨a1, a2⟩ := hall j oj g1 her
      simp only [Bool.and_eq_true, Bool.or_eq_true, Bool.not_eq_true']
      constructor
      · cases hff : f with
        | true => exact .inl (.inl rfl)
        | false =>
          cases hb : ancB as i j with
          | false => exact .inl (.inr rfl)
          | true => exact .inr (Nat.ble_eq_true_of_le (by rw [← g2]; exact a1 (by rw [← hfj]; exact hff) hb))
      · cases hb : ancB as j i with
        | false => exact .inl rfl
        | true => exact .inr (Nat.ble_eq_true_of_le (by rw [← g2]; exact a2 hb)))
    rw [hsome _ _ h1]; exact .inl h2
  · have := lastA_get _ _ h
    rw [hsize] at this
    exact hsome _ _ (by simpa using this)

theorem items_length : ∀ (l : List Oper) (k : Nat), (items l k).length = l.length
  | [], _ => rfl
  | _ :: r, k => by simp [items, items_length r]

theorem text_drawn {E : Env} {callF : FuncId → List Value → Heap → Option (Value × Heap)} {ops : List Oper} : ∀ (l : List Oper) (k : Nat) (σ σ' : St), regA E callF ops l σ = some σ' → ∃ ss, statesA E callF ops (items l k) σ = some ss ∧ lastA ss = some σ'
  | [], k, σ, σ', h => by
    simp only [regA, Option.some.injEq] at h; subst h
    exact ⟨[σ], rfl, rfl⟩
  | o :: r, k, σ, σ', h => by
    simp only [regA] at h
    split at h
    case h_2 => cases h
    case h_1 σ1 h1 =>
    obtain ⟨ss, e1, e2⟩ := text_drawn r (k + 1) σ1 σ' h
    refine ⟨σ :: ss, by simp [items, statesA, h1, e1], ?_⟩
    cases ss with
    | nil => simp [lastA] at e2
    | cons s ss => simpa [lastA] using e2

/-- Without effects. -/
theorem drawn_pure {E : Env} {callF : FuncId → List Value → Heap → Option (Value × Heap)} {ops : Array Oper} {σ σ' : St} (hes : effs E ops.toList 0 = []) (hst : drawOk E ops = true)
    (h : regA E callF ops.toList ops.toList σ = some σ') :
    ∃ (st : Nat → St) (anc : Nat → Nat → Prop) (pos : Nat → Nat) (fr : Nat → Bool), Drawn E callF ops st anc pos fr ∧ st 0 = σ ∧ st ops.size = σ' := by
  obtain ⟨ss, hss, hl⟩ := text_drawn ops.toList 0 σ σ' h
  obtain ⟨s1, s2, s3⟩ := statesA_spec _ _ _ hss
  have hsize : ss.length = ops.size + 1 := by rw [s1, items_length]; simp
  simp only [drawOk] at hst
  rw [hes] at hst
  simp only [Bool.and_eq_true] at hst
  obtain ⟨⟨_, t3⟩, _⟩ := hst
  have hplan : planOf ops.toList (ancs ops.toList []) (freesOf ops.toList (ancs ops.toList []) []) = items ops.toList 0 := rfl
  rw [hplan] at t3
  have get : ∀ (i : Nat) (o : Oper), ops[i]? = some o → (items ops.toList 0)[i]? = some (i, o) := by
    intro i o ho
    rw [items_get]; simp [ho]
  have spec := fun (i : Nat) (o : Oper) (ho : ops[i]? = some o) => allOk_spec (items ops.toList 0) [] t3 i (i, o) (get i o ho)
  let st : Nat → St := fun i => ss.getD i σ
  have hsome : ∀ i s, ss[i]? = some s → st i = s := by
    intro i s e
    simp [st, e]
  have hpure : ∀ (i : Nat) (o : Oper), ops[i]? = some o → readsOnly E o = true := by
    intro i o ho
    cases hq : readsOnly E o with
    | true => rfl
    | false =>
      have : i ∈ effs E ops.toList 0 := (effs_mem _ _ _).2 ⟨_, by omega, by simpa using ho, hq⟩
      rw [hes] at this; simp at this
  have hstep : ∀ (i : Nat) (o : Oper), ops[i]? = some o → stepA E callF ops.toList o (st i) = some (st (i + 1)) := by
    intro i o ho
    obtain ⟨s, s', k1, k2, k3⟩ := s3 i (i, o) (get i o ho)
    rw [hsome _ _ k1, hsome _ _ k2]; exact k3
  have hH : ∀ p, p ≤ ops.size → (st p).H = (st 0).H := by
    intro p
    induction p with
    | zero => intro _; rfl
    | succ p ih =>
      intro hp
      have ho : ops[p]? = some ops[p] := Array.getElem?_eq_getElem (by omega)
      obtain ⟨v, h1, _⟩ := step_inv (hstep p _ ho)
      rw [makes_reads (hpure p _ ho) h1]
      exact ih (by omega)
  refine ⟨st, fun i j => ancB (ancs ops.toList []) i j = true, id, fun _ => false, ⟨fun i hi => hi, fun i j _ _ e => e, fun q hq => ⟨q, hq, rfl⟩, hstep, ?_, ?_, ?_, ?_, ?_, ?_, ?_⟩, hsome 0 σ s2, ?_⟩
  · intro i o ho e he hb
    obtain ⟨q', y, a, b, c⟩ := (spec i o ho).1 e he hb
    simp only [List.length_nil, Nat.zero_add, List.nil_append] at a b
    rw [items_get] at b
    simp only [Option.map_eq_some_iff] at b
    obtain ⟨o', b1, b2⟩ := b
    cases b2
    simp only [Nat.zero_add] at c
    rw [← c]
    exact ⟨by have := (List.getElem?_eq_some_iff.1 b1).1; simpa using this, a⟩
  · intro i j oi oj hlt hi hj
    have hlt' : j < i := hlt
    have := ((spec i oi hi).2 j (j, oj) (by simpa using hlt') (by simpa using get j oj hj)).2
    simp only [pairOk, Bool.or_eq_true, Bool.and_eq_true] at this
    rcases this with h | ⟨h1, (h2 | h2) | h2⟩
    · exact .inl h
    · exact .inr ⟨h1, .inl h2⟩
    · exact .inr ⟨h1, .inr (.inl h2)⟩
    · exact .inr ⟨h1, .inl (hpure i oi hi)⟩
  · intro L hL k o hk he j hj
    exact ancs_listed (ops := ops.toList) (L := L) (fun i o ho => hL i o (by simpa using ho)) ops.toList [] (by simp) (by intro k hk; simp at hk) k o (by simpa using hk) he j hj
  · intro i o _ hf; cases hf
  · intro i o _ hf; cases hf
  · intro i j oi oj _ _ hf; cases hf
  · intro i o ho _ _ _ p hp _
    refine .inr ?_
    have hi := lt_of ho
    have hp' : p ≤ ops.size := by
      rcases hp with h | ⟨j, oj, e, hj, _⟩
      · omega
      · have := lt_of hj
        rw [e]; show j ≤ _; omega
    show (st p).H = (st i).H
    rw [hH p hp', hH i (by omega)]
  · have := lastA_get _ _ hl
    rw [hsize] at this
    exact hsome _ _ (by simpa using this)

theorem drawA_ok {P : Program} {E : Env} {G : GS} {callF : FuncId → List Value → Heap → Option (Value × Heap)} (T : TyOk P E) (X : XOk P E G) (hm : P.follows .mixedOrders = true) (C : CallOk P G callF)
    {ops : Array Oper} {σ σ' : St} {id : Nat} {B : Nat} {W0 w : World} {μ : Mu} {a : Act} {Q : Exit → Act → World → Prop} (hok : okOps G.ng ops = true) (hst : drawOk E ops = true) (h : drawA E callF ops.toList σ = some σ')
    (sr : SR μ σ a) (hr : HR B W0 μ σ.H w) (g : GOk G B W0 μ) (hQ : ∀ μ' a' w', μ.le μ' → SR μ' σ' a' → HR B W0 μ' σ'.H w' → Q .normal a' w') : (Code.region id ops true).wp P Q a w := by
  have hd : ∃ (st : Nat → St) (anc : Nat → Nat → Prop) (pos : Nat → Nat) (fr : Nat → Bool), Drawn E callF ops st anc pos fr ∧ st 0 = σ ∧ st ops.size = σ' := by
    unfold drawA at h
    split at h
    · rename_i hes; exact drawn_pure hes hst h
    · exact drawn_of rfl hst h
  obtain ⟨st, anc, pos, fr, D, rfl, rfl⟩ := hd
  refine wp_region_any hm ?_
  have none_listed : ∀ i, ¬ (Array.replicate ops.size false).getD i false = true := by
    intro i h
    simp [Array.getElem?_replicate] at h
    split at h <;> simp at h
  refine D.anyOk T X C hok hQ ops.size μ 0 (fun _ => none) _ a _ (by simp) ?_
  refine ⟨sr.size, sr.defers, by simp, fun i o _ hl => absurd hl (none_listed i), g, μ.leV_refl, fun _ _ => rfl, by omega, hr.drawn _, ?_, ?_, ?_, ?_, ?_, ?_⟩
  · intro j oj _ _ _
    exact ⟨fun h => by omega, fun h => absurd h (none_listed j)⟩
  · intro j _ _ h; omega
  · intro j oj _ _ hl; exact absurd hl (none_listed j)
  · intro i b h; cases h
  · intro i j b h; cases h
  · intro t _
    exact ⟨0, by omega, sr.tmp t, fun j oj _ _ => ⟨fun h => by omega, fun h => absurd h (none_listed j)⟩⟩
end Go.Vsx
