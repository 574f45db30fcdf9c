/- Regions that draw their order: whatever order is drawn, the end is that of the canonical order. -/
import Derived.Test.YtfahjdpepgedpaaGreatDoorVDraw2
set_option linter.all false
namespace Go.Vsx
open Go Go.RowKit

/-! blocks kept for later -/
def Mu.keep (μ : Mu) (b : Nat) (O : Obj) : Mu := { μ with kp := fun k => if k = b then some O else μ.kp k }
def Mu.unkeep (μ : Mu) (b : Nat) : Mu := { μ with kp := fun k => if k = b then none else μ.kp k }
theorem Mu.leV_keep (μ : Mu) (b : Nat) (O : Obj) : μ.leV (μ.keep b O) := ⟨fun _ _ h => h, fun _ _ h => h⟩
theorem Mu.leV_unkeep (μ : Mu) (b : Nat) : μ.leV (μ.unkeep b) := ⟨fun _ _ h => h, fun _ _ h => h⟩

theorem plain_eq {μ : Mu} {v v' : Value} (h : plainC v = true) (hv : VR μ v v') : v' = v := by
  unfold plainC at h
  split at h <;> first | (cases h; done) | (cases hv; rfl)
theorem VL_plain {μ : Mu} {l l' : List Value} (h : ∀ x ∈ l, plainC x = true) (hl : VL μ l l') : l' = l := by
  apply List.ext_getElem?
  intro i
  cases hi : l[i]? with
  | none => rw [List.getElem?_eq_none_iff] at hi ⊢; rw [← hl.1]; exact hi
  | some x =>
    obtain ⟨x', h1, h2⟩ := hl.getElem? hi
    rw [h1, plain_eq (h x (List.mem_of_getElem? hi)) h2]
theorem VL_self {μ : Mu} {l : List Value} (h : ∀ x ∈ l, plainC x = true) : VL μ l l :=
  ⟨rfl, fun i v v' a b => by rw [a] at b; cases b; exact plain_ok (h v (List.mem_of_getElem? a))⟩

section
variable {B : Nat} {W0 w : World} {μ : Mu} {H : Heap}

theorem HR.blk_lt (h : HR B W0 μ H w) {v : Nat} {o : AObj} {p : Pl} (hv : H.get v = some o) (hp : μ.pl v = some p) : p.blk < w.heap.size := by
  obtain ⟨q, a, b, _⟩ := h.obj v o hv
  rw [a] at hp; cases hp
  cases o <;> simp only [OR] at b
  all_goals first
    | (obtain ⟨_, _, _, hx, _⟩ := b; exact (Array.getElem?_eq_some_iff.1 hx).1)
    | (obtain ⟨_, hx, _⟩ := b; exact (Array.getElem?_eq_some_iff.1 hx).1)
    | (obtain ⟨_, _, hx, _⟩ := b; exact (Array.getElem?_eq_some_iff.1 hx).1)
    | (obtain ⟨_, _, _, _, hx, _⟩ := b; exact (Array.getElem?_eq_some_iff.1 hx).1)
    | (obtain ⟨_, hx⟩ := b; exact (Array.getElem?_eq_some_iff.1 hx).1)
    | exact (Array.getElem?_eq_some_iff.1 b).1

theorem HR.pend (h : HR B W0 μ H w) (O : Obj) : HR B W0 (μ.keep w.heap.size O) H { w with heap := w.heap.push O } where
  below := h.below.trans ((Below.refl B w).alloc h.base O)
  base := by simp; exact Nat.le_succ_of_le h.base
  fresh := h.fresh
  atoms := h.atoms
  obj := fun v o hv => by
    obtain ⟨p, a, b, c⟩ := h.obj v o hv
    have hlt := h.blk_lt hv a
    refine ⟨p, a, (b.of_block (w' := { w with heap := w.heap.push O }) ?_).monoV (Mu.leV_keep _ _ _), c⟩
    show (w.heap.push O)[p.blk]? = _
    rw [Array.getElem?_push, if_neg (by omega)]
  inj := h.inj
  kept := fun b O' e => by
    simp only [Mu.keep] at e
    show (w.heap.push O)[b]? = _
    split at e
    · rename_i hb; cases e; subst hb; simp
    · have := h.kept b O' e
      have hlt := (Array.getElem?_eq_some_iff.1 this).1
      rw [Array.getElem?_push, if_neg (by omega)]; exact this
  aprt := fun v o p hv ho hp => by
    have hlt := h.blk_lt hv hp
    simp only [Mu.keep]
    rw [if_neg (by omega)]
    exact h.aprt v o p hv ho hp

theorem HR.unkeep (h : HR B W0 μ H w) (b : Nat) : HR B W0 (μ.unkeep b) H w where
  below := h.below
  base := h.base
  fresh := h.fresh
  atoms := h.atoms
  obj := fun v o hv => let ⟨p, a, b', c⟩ := h.obj v o hv; ⟨p, a, b'.monoV (Mu.leV_unkeep _ _), c⟩
  inj := h.inj
  kept := fun k O e => by
    simp only [Mu.unkeep] at e
    split at e
    · cases e
    · exact h.kept k O e
  aprt := fun v o p hv ho hp => by
    simp only [Mu.unkeep]
    split
    · rfl
    · exact h.aprt v o p hv ho hp

theorem HR.adopt (h : HR B W0 μ H w) {b : Nat} {cs : List Value} {e : TypeId} (s : Nat) (hk : μ.kp b = some (.cells cs.toArray e)) (hB : B ≤ b) (hp : ∀ x ∈ cs, plainC x = true) :
    HR B W0 ((μ.unkeep b).ext H.next ⟨b, 0, 0⟩) (H.add (.row ⟨cs, cs.length, e, s, false, false, false⟩)) w := by
  refine (h.unkeep b).add (.row ⟨cs, cs.length, e, s, false, false, false⟩) ⟨b, 0, 0⟩ (Below.refl B w) (Nat.le_refl _) hB rfl ?_ (fun _ _ _ => rfl) (by simp [Mu.unkeep]) ?_
  · intro v o' q hv hq ho hb
    have := h.aprt v o' q hv ho hq
    have hb' : q.blk = b := hb
    rw [hb', hk] at this; cases this
  · exact ⟨cs.toArray, e, (0, 0), h.kept b _ hk, rowOk_exact (VL_self hp) e s b 0⟩
end

/-- What the checks say of a region, its operations and its states in the canonical order: 'pos' tells an operation's place. -/
structure Drawn (E : Env) (callF : FuncId → List Value → Heap → Option (Value × Heap)) (ops : Array Oper) (st : Nat → St) (anc : Nat → Nat → Prop) (pos : Nat → Nat) (fr : Nat → Bool) : Prop where
  lt : ∀ i, i < ops.size → pos i < ops.size
  inj : ∀ i j, i < ops.size → j < ops.size → pos i = pos j → i = j
  surj : ∀ q, q < ops.size → ∃ i, i < ops.size ∧ pos i = q
  step : ∀ i o, ops[i]? = some o → stepA E callF ops.toList o (st (pos i)) = some (st (pos i + 1))
  back : ∀ i o, ops[i]? = some o → ∀ e ∈ o.after, Region.binds .any e = true → e.on < ops.size ∧ pos e.on < pos i
  ord : ∀ i j oi oj, pos j < pos i → ops[i]? = some oi → ops[j]? = some oj → anc i j ∨ (oi.apart ops oj = true ∧ (readsOnly E oi = true ∨ readsOnly E oj = true ∨ fr i = true))
  listed : ∀ L : Nat → Prop, (∀ i o, ops[i]? = some o → L i → ∀ e ∈ o.after, Region.binds .any e = true → L e.on) → ∀ k o, ops[k]? = some o → (∀ e ∈ o.after, Region.binds .any e = true → L e.on) → ∀ j, anc k j → L j
  frBS : ∀ i o, ops[i]? = some o → fr i = true → readsOnly E o = false ∧ isBS o = true
  frPl : ∀ i o, ops[i]? = some o → fr i = true → wantedA ops.toList (st (pos i)) o = some true → ∃ v H', aop E (st (pos i)).ev o (st (pos i)).H = some (.val v H') ∧ plainRow H' (st (pos i)).H.next = true
  look : ∀ i j oi oj, ops[i]? = some oi → ops[j]? = some oj → fr j = true → pos j < pos i → oi.apart ops oj = false → ∀ k ok, ops[k]? = some ok → pos k < pos j → readsOnly E ok = false → anc i k
  chk : ∀ i o, ops[i]? = some o → readsOnly E o = true → wantedA ops.toList (st (pos i)) o = some true → heapFree (st (pos i)).ev o = false →
    ∀ p, (p = ops.size ∨ ∃ j oj, p = pos j ∧ ops[j]? = some oj ∧ readsOnly E oj = false) → (∀ j oj, ops[j]? = some oj → readsOnly E oj = false → (fr j = false → anc i j → pos j < p) ∧ (anc j i → p ≤ pos j)) →
    sameAtA E (st (pos i)) o (st p).H = true ∨ (st p).H = (st (pos i)).H

/-- A value that leads to a block's head. -/
def Refers (val : Nat → Value) : Prop := ∀ (μ : Mu) (v b : Nat), μ.pl v = some ⟨b, 0, 0⟩ → VR μ (val v) (val b)
theorem refers_slice (n m : Nat) : Refers fun b => .slice (some ⟨b, 0, none⟩) n m := by
  intro μ v b h
  have := VR.slc (μ := μ) v 0 n m ⟨b, 0, 0⟩ h
  simpa using this
theorem refers_ptr : Refers fun b => .pointer (some ⟨b, 0, none⟩) := by
  intro μ v b h
  have := VR.ptr (μ := μ) v 0 ⟨b, 0, 0⟩ h
  simpa using this

/-- An allocation that the world has and the canonical order has not yet. -/
structure Pend (ops : Array Oper) (st : Nat → St) (pos : Nat → Nat) (fr : Nat → Bool) (μ0 : Mu) (B : Nat) (listed : Array Bool) (a : Act) (μ : Mu) (p i b : Nat) : Prop where
  lt : i < ops.size
  f : fr i = true
  l : listed.getD i false = true
  q : p ≤ pos i
  row : ∃ o cs e s val, ops[i]? = some o ∧ (st (pos i + 1)).H = (st (pos i)).H.add (.row ⟨cs, cs.length, e, s, false, false, false⟩) ∧ (∀ x ∈ cs, plainC x = true) ∧ μ.kp b = some (.cells cs.toArray e) ∧
    (∀ t, o.dst = some t → a.tmps.getD t undef = val b ∧ (st (pos i + 1)).rd t = val (st (pos i)).H.next) ∧ Refers val
  kb : μ0.kp b = none
  B : B ≤ b
  nol : ∀ k ok oi, ops[k]? = some ok → ops[i]? = some oi → pos i < pos k → ok.apart ops oi = false → ¬ listed.getD k false = true

structure DI (E : Env) (G : GS) (B : Nat) (W0 : World) (ops : Array Oper) (st : Nat → St) (pos : Nat → Nat) (fr : Nat → Bool) (μ0 : Mu) (listed : Array Bool) (a : Act) (w : World) (μ : Mu) (p : Nat) (pd : Nat → Option Nat) : Prop where
  size : a.tmps.size = (st 0).n
  defers : a.defers = []
  lsize : listed.size = ops.size
  closed : ∀ i o, ops[i]? = some o → listed.getD i false = true → ∀ e ∈ o.after, Region.binds .any e = true → listed.getD e.on false = true
  gok : GOk G B W0 μ0
  le0 : μ0.leV μ
  kp0 : ∀ b, (∀ i, pd i ≠ some b) → μ.kp b = μ0.kp b
  hp : p ≤ ops.size
  hr : HR B W0 μ (st p).H w
  eff : ∀ j oj, ops[j]? = some oj → readsOnly E oj = false → fr j = false → (pos j < p ↔ listed.getD j false = true)
  fre : ∀ j, j < ops.size → fr j = true → pos j < p → listed.getD j false = true
  pall : ∀ j oj, ops[j]? = some oj → fr j = true → listed.getD j false = true → p ≤ pos j → pd j = none → (st (pos j + 1)).H = (st (pos j)).H
  pend : ∀ i b, pd i = some b → Pend ops st pos fr μ0 B listed a μ p i b
  pinj : ∀ i j b, pd i = some b → pd j = some b → i = j
  tmp : ∀ t, (∀ i o, pd i ≠ none → ops[i]? = some o → o.dst ≠ some t) → ∃ q, q ≤ ops.size ∧ VR μ ((st q).rd t) (a.tmps.getD t undef) ∧ ∀ j oj, ops[j]? = some oj → oj.dst = some t → (pos j < q ↔ listed.getD j false = true)

section
variable {E : Env} {callF : FuncId → List Value → Heap → Option (Value × Heap)} {ops : Array Oper} {st : Nat → St} {anc : Nat → Nat → Prop} {pos : Nat → Nat} {fr : Nat → Bool}

theorem Drawn.at (D : Drawn E callF ops st anc pos fr) {q : Nat} (h : q < ops.size) : ∃ i o, ops[i]? = some o ∧ pos i = q ∧ stepA E callF ops.toList o (st q) = some (st (q + 1)) := by
  obtain ⟨i, hi, e⟩ := D.surj q h
  have ho : ops[i]? = some ops[i] := Array.getElem?_eq_getElem hi
  exact ⟨i, _, ho, e, e ▸ D.step i _ ho⟩

theorem Drawn.n (D : Drawn E callF ops st anc pos fr) : ∀ i, i ≤ ops.size → (st i).n = (st 0).n
  | 0, _ => rfl
  | i + 1, h => by
    obtain ⟨_, o, _, _, hs⟩ := D.at (q := i) (by omega)
    obtain ⟨v, _, h2, _⟩ := step_inv hs
    rw [h2, D.n i (by omega)]

theorem Drawn.rd_le (D : Drawn E callF ops st anc pos fr) {t p : Nat} : ∀ q, p ≤ q → q ≤ ops.size → (∀ j oj, p ≤ pos j → pos j < q → ops[j]? = some oj → oj.dst ≠ some t) → (st q).rd t = (st p).rd t
  | 0, h, _, _ => by rw [Nat.le_zero.1 h]
  | q + 1, h, hq, hw => by
    rcases Nat.eq_or_lt_of_le h with e | e
    · rw [e]
    · obtain ⟨i, o, ho, hi, hs⟩ := D.at (q := q) (by omega)
      obtain ⟨v, _, _, _, h4⟩ := step_inv hs
      rw [h4 t (hw i _ (by omega) (by omega) ho)]
      exact D.rd_le q (by omega) (by omega) (fun j oj h1 h2 => hw j oj h1 (by omega))

theorem Drawn.rd (D : Drawn E callF ops st anc pos fr) {t p q : Nat} (hp : p ≤ ops.size) (hq : q ≤ ops.size) (hw : ∀ j oj, ops[j]? = some oj → oj.dst = some t → (pos j < p ↔ pos j < q)) : (st p).rd t = (st q).rd t := by
  rcases Nat.le_total p q with h | h
  · exact (D.rd_le q h hq fun j oj h1 h2 h3 h4 => by have := hw j oj h3 h4; omega).symm
  · exact D.rd_le p h hp fun j oj h1 h2 h3 h4 => by have := hw j oj h3 h4; omega

theorem Drawn.tri (D : Drawn E callF ops st anc pos fr) {i j : Nat} (hi : i < ops.size) (hj : j < ops.size) : pos j < pos i ∨ j = i ∨ pos i < pos j := by
  rcases Nat.lt_trichotomy (pos j) (pos i) with h | h | h
  · exact .inl h
  · exact .inr (.inl (D.inj j i hj hi h))
  · exact .inr (.inr h)

theorem lt_of {i : Nat} {o : Oper} (h : ops[i]? = some o) : i < ops.size := (Array.getElem?_eq_some_iff.1 h).1

variable {G : GS} {B : Nat} {W0 : World} {μ0 : Mu} {listed : Array Bool} {a : Act} {w : World}

theorem DI.anc_listed (D : Drawn E callF ops st anc pos fr) {μ : Mu} {p : Nat} {pd : Nat → Option Nat} (I : DI E G B W0 ops st pos fr μ0 listed a w μ p pd) {i : Nat} {o : Oper} (hi : ops[i]? = some o)
    (hl : ∀ e ∈ o.after, Region.binds .any e = true → listed.getD e.on false = true) {j : Nat} (h : anc i j) : listed.getD j false = true :=
  D.listed (fun j => listed.getD j false = true) I.closed i o hi hl j h

/-- One place on, where nothing is to be done by the world. -/
theorem DI.adv1 (D : Drawn E callF ops st anc pos fr) {μ : Mu} {p : Nat} {pd : Nat → Option Nat} (I : DI E G B W0 ops st pos fr μ0 listed a w μ p pd) (hp : p < ops.size)
    {j : Nat} {o : Oper} (ho : ops[j]? = some o) (hj : pos j = p) (hc : readsOnly E o = true ∨ (fr j = true ∧ listed.getD j false = true)) :
    ∃ μ' pd', DI E G B W0 ops st pos fr μ0 listed a w μ' (p + 1) pd' := by
  have hjl := lt_of ho
  have hother : ∀ i, i < ops.size → i ≠ j → pos i ≠ p := fun i hi hne e => hne (D.inj i j hi hjl (e.trans hj.symm))
  have step := D.step j o ho
  rw [hj] at step
  obtain ⟨v, hm, _, _, _⟩ := step_inv step
  -- where the heap stays
  have same : (st (p + 1)).H = (st p).H → pd j = none → ∃ μ' pd', DI E G B W0 ops st pos fr μ0 listed a w μ' (p + 1) pd' := by
    intro hH hnone
    refine ⟨μ, pd, { I with hp := hp, hr := hH ▸ I.hr, eff := ?_, fre := ?_, pall := ?_, pend := ?_ }⟩
    · intro k ok hk hr hf
      rw [← I.eff k ok hk hr hf]
      have : pos k ≠ p := by
        refine hother k (lt_of hk) fun e => ?_
        subst e
        rw [ho] at hk; cases hk
        rcases hc with h | h
        · rw [h] at hr; cases hr
        · rw [h.1] at hf; cases hf
      omega
    · intro k hk hf hlt
      by_cases e : k = j
      · subst e
        rcases hc with h | h
        · exact absurd ((D.frBS k o ho hf).1) (by rw [h]; simp)
        · exact h.2
      · have := hother k hk e
        exact I.fre k hk hf (by omega)
    · intro k ok hk hf hl hle hn
      exact I.pall k ok hk hf hl (by omega) hn
    · intro i b hi
      have P := I.pend i b hi
      have : pos i ≠ p := hother i P.lt (by rintro rfl; rw [hnone] at hi; cases hi)
      exact { P with q := by have := P.q; omega }
  rcases hc with hro | ⟨hf, hl⟩
  · refine same (makes_reads hro hm) ?_
    cases e : pd j with
    | none => rfl
    | some b =>
      have := (D.frBS j o ho (I.pend j b e).f).1
      rw [hro] at this; cases this
  · cases e : pd j with
    | none =>
      have := I.pall j o ho hf hl (by omega) e
      rw [hj] at this
      exact same this e
    | some b =>
      have P := I.pend j b e
      obtain ⟨o', cs, el, s, val, ho', hH, hpl, hk, hslot, href⟩ := P.row
      rw [ho] at ho'; cases ho'
      rw [hj] at hH
      have hr2 := I.hr.adopt s hk P.B hpl
      have hlv : μ.leV ((μ.unkeep b).ext (st p).H.next ⟨b, 0, 0⟩) := (Mu.leV_unkeep μ b).trans (Mu.le_ext (μ := μ.unkeep b) (I.hr.fresh _ (Nat.le_refl _))).v
      refine ⟨(μ.unkeep b).ext (st p).H.next ⟨b, 0, 0⟩, fun i => if i = j then none else pd i, { I with le0 := I.le0.trans hlv, kp0 := ?_, hp := hp, hr := hH ▸ hr2, eff := ?_, fre := ?_, pall := ?_, pend := ?_, pinj := ?_, tmp := ?_ }⟩
      · intro b' hb'
        show (if b' = b then none else μ.kp b') = μ0.kp b'
        by_cases eb : b' = b
        · rw [if_pos eb, eb, P.kb]
        · rw [if_neg eb]
          refine I.kp0 b' fun i hi => ?_
          have := hb' i
          by_cases ei : i = j
          · subst ei; rw [e] at hi; cases hi; exact eb rfl
          · rw [if_neg ei] at this; exact this hi
      · intro k ok hk hr hfk
        rw [← I.eff k ok hk hr hfk]
        have : pos k ≠ p := hother k (lt_of hk) (by rintro rfl; rw [hf] at hfk; cases hfk)
        omega
      · intro k hk hfk hlt
        by_cases e2 : k = j
        · subst e2; exact hl
        · have := hother k hk e2
          exact I.fre k hk hfk (by omega)
      · intro k ok hk hfk hlk hle hn
        by_cases e2 : k = j
        · subst e2; omega
        · rw [if_neg e2] at hn
          exact I.pall k ok hk hfk hlk (by omega) hn
      · intro i b' hi
        by_cases e2 : i = j
        · rw [if_pos e2] at hi; cases hi
        · rw [if_neg e2] at hi
          have Pi := I.pend i b' hi
          have hne : pos i ≠ p := hother i Pi.lt e2
          have hbb : b' ≠ b := fun k => e2 (I.pinj i j b' hi (k ▸ e))
          obtain ⟨oi, cs', el', s', val', r1, r2, r3, r4, r5, r6⟩ := Pi.row
          refine { Pi with q := by have := Pi.q; omega, row := ⟨oi, cs', el', s', val', r1, r2, r3, ?_, r5, r6⟩ }
          show (if b' = b then none else μ.kp b') = _
          rw [if_neg hbb]; exact r4
      · intro i i' b' hi hi'
        by_cases e2 : i = j
        · rw [if_pos e2] at hi; cases hi
        · by_cases e3 : i' = j
          · rw [if_pos e3] at hi'; cases hi'
          · rw [if_neg e2] at hi; rw [if_neg e3] at hi'
            exact I.pinj i i' b' hi hi'
      · intro t ht
        by_cases hd : o.dst = some t
        · obtain ⟨s1, s2⟩ := hslot t hd
          refine ⟨p + 1, hp, ?_, ?_⟩
          · rw [s1, ← hj, s2, hj]
            exact href _ _ _ (Mu.ext_same ..)
          · intro k ok hk hdk
            have hk' := lt_of hk
            rcases D.tri hjl hk' with h | h | h
            · refine ⟨fun _ => ?_, fun _ => by omega⟩
              rcases D.ord j k o ok h ho hk with h1 | ⟨h1, _⟩
              · exact I.anc_listed D ho (I.closed j o ho hl) h1
              · exact absurd hdk ((Oper.apart_spec h1).2.1 t hd)
            · subst h; exact ⟨fun _ => hl, fun _ => by omega⟩
            · refine ⟨fun h' => by omega, fun hlk => ?_⟩
              refine absurd hlk (P.nol k ok o hk ho h ?_)
              cases hap : ok.apart ops o with
              | false => rfl
              | true => exact absurd hd ((Oper.apart_spec hap).2.1 t hdk)
        · obtain ⟨q, q1, q2, q3⟩ := I.tmp t (by
            intro i oi hi hoi
            by_cases e2 : i = j
            · subst e2; rw [ho] at hoi; cases hoi; exact hd
            · exact ht i oi (by rw [if_neg e2]; exact hi) hoi)
          exact ⟨q, q1, q2.monoV hlv, q3⟩

/-- As far on as may be. -/
theorem DI.norm (D : Drawn E callF ops st anc pos fr) : ∀ (k : Nat) {μ : Mu} {p : Nat} {pd : Nat → Option Nat}, ops.size - p = k → DI E G B W0 ops st pos fr μ0 listed a w μ p pd →
    ∃ μ' p' pd', DI E G B W0 ops st pos fr μ0 listed a w μ' p' pd' ∧ (p' = ops.size ∨ ∃ j o, ops[j]? = some o ∧ p' = pos j ∧ readsOnly E o = false ∧ ¬ listed.getD j false = true)
  | 0, μ, p, pd, hk, I => ⟨μ, p, pd, I, .inl (by have := I.hp; omega)⟩
  | k + 1, μ, p, pd, hk, I => by
    have hlt : p < ops.size := by omega
    obtain ⟨j, o, ho, hj, _⟩ := D.at hlt
    by_cases hc : readsOnly E o = true ∨ (fr j = true ∧ listed.getD j false = true)
    · obtain ⟨μ', pd', I'⟩ := I.adv1 D hlt ho hj hc
      exact DI.norm D k (by omega) I'
    · refine ⟨μ, p, pd, I, .inr ⟨j, o, ho, hj.symm, ?_, ?_⟩⟩
      · cases hr : readsOnly E o with
        | false => rfl
        | true => exact absurd (.inl hr) hc
      · intro hl
        cases hf : fr j with
        | true => exact hc (.inr ⟨hf, hl⟩)
        | false =>
          cases hr : readsOnly E o with
          | true => exact hc (.inl hr)
          | false =>
            have := (I.eff j o ho hr hf).2 hl
            omega
end
end Go.Vsx
