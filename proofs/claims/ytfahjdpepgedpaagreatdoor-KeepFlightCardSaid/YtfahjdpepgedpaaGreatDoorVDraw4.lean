/- Regions that draw their order: one step, all steps. -/
import Derived.Test.YtfahjdpepgedpaaGreatDoorVDraw3
set_option linter.all false
namespace Go.Vsx
open Go Go.RowKit

theorem wantedA_isSome_of_makes {E : Env} {callF : FuncId → List Value → Heap → Option (Value × Heap)} {ops : List Oper} {o : Oper} {σ : St} {H H2 : Heap} {v : Value} (h : Makes E callF ops σ o H v H2) :
    wantedA ops σ o = some false ∨ wantedA ops σ o = some true := by
  rcases h with ⟨h, _⟩ | ⟨h, _⟩
  · exact .inl h
  · exact .inr h

theorem PL.map_on {μ : Mu} {ρ ρ' : Operand → Value} : ∀ (l : List (Nat × Operand)), (∀ x ∈ l, VR μ (ρ x.2) (ρ' x.2)) → PL μ (l.map fun x => (x.1, ρ x.2)) (l.map fun x => (x.1, ρ' x.2))
  | [], _ => trivial
  | x :: l, h => ⟨rfl, h x (by simp), PL.map_on l fun y hy => h y (by simp [hy])⟩

theorem getD_true_of_false {listed : Array Bool} {i : Nat} (hlt : i < listed.size) (h : listed.getD i true = false) : ¬ listed.getD i false = true := by
  simp [hlt] at h ⊢
  exact h

/-- What a free allocation does. -/
theorem free_run {P : Program} {E : Env} (T : TyOk P E) {μ : Mu} {w : World} {ρ ρ' : Operand → Value} {o : Oper} {H H' : Heap} {v : Value} (hb : isBS o = true) (h : aop E ρ o H = some (.val v H'))
    (hρ : ∀ x ∈ o.op.operands, VR μ (ρ x) (ρ' x)) (hat : ∀ k x, μ.at_ k = some x → x.oneCell' = true) (hp : plainRow H' H.next = true) :
    ∃ cs e s val, v = val H.next ∧ H' = H.add (.row ⟨cs, cs.length, e, s, false, false, false⟩) ∧ (∀ x ∈ cs, plainC x = true) ∧ Refers val ∧
      (execOp ρ' o).run P w = .ok (.value (val w.heap.size)) { w with heap := w.heap.push (.cells cs.toArray e) } := by
  have plain : ∀ {cs : List Value} {lb : Nat} {e s : Nat}, H' = H.add (.row ⟨cs, lb, e, s, false, false, false⟩) → ∀ x ∈ cs, plainC x = true := by
    intro cs lb e s hH
    rw [hH] at hp
    unfold plainRow at hp
    rw [Heap.get_add, if_pos rfl] at hp
    simpa using hp
  obtain ⟨dst, op, ty, ps, af, gd⟩ := o
  cases op <;> simp only [isBS, Bool.false_eq_true] at hb
  case buildSlice t n parts =>
    simp only [aop, symA, aop0, Option.map_eq_some_iff] at h
    obtain ⟨⟨v2, H2⟩, hb', hbe⟩ := h
    injection hbe with q1 q2
    subst q1 q2
    have hPL : PL μ (parts.toList.map fun x => (x.1, ρ x.2)) (parts.toList.map fun x => (x.1, ρ' x.2)) := by
      refine PL.map_on _ fun x hx => hρ x.2 ?_
      simp [Op.operands]; exact ⟨x.1, by simpa using hx⟩
    obtain ⟨cs, e, s, r', e1, e2, e3, e4, e5⟩ := buildSlice_run T (P := P) hat hb' hPL
    have hpl := plain e2
    have er : r' = cs := VL_plain hpl e3
    subst er
    refine ⟨r', e, s, fun b => .slice (some ⟨b, 0, none⟩) n n, e1, by rw [e2, e4], hpl, refers_slice n n, ?_⟩
    have hconv : execOp ρ' ⟨dst, .buildSlice t n parts, ty, ps, af, gd⟩ = (do pure (.value (← Instr.buildSlice t n (parts.toList.map fun x => (x.1, ρ' x.2)).toArray))) := by
      simp only [execOp]
      congr 2
      apply Array.toList_inj.1
      simp
    rw [hconv]
    simp [e5]
  case alloc e =>
    simp only [aop, symA, aop0, Option.bind_eq_bind, Option.bind_eq_some_iff] at h
    obtain ⟨z, hz, ⟨v2, H2⟩, h1, h2⟩ := h
    injection h2 with h2
    injection h2 with q1 q2
    subst q1 q2
    obtain ⟨s, e1, e2, e3⟩ := alloc_run T (P := P) hz h1
    refine ⟨z.cells.toList, e, s, fun b => .pointer (some ⟨b, 0, none⟩), e1, e2, plain e2, refers_ptr, ?_⟩
    simp only [execOp, Sem.run_bind, e3, Result.andThen_ok, Sem.run_pure]
  case makeSlice t l c =>
    simp only [aop, symA, aop0, Option.map_eq_some_iff] at h
    obtain ⟨⟨v2, H2⟩, hb', hbe⟩ := h
    injection hbe with q1 q2
    subst q1 q2
    obtain ⟨cs, e, s, n, m, e1, e2, _, e3⟩ := makeSlice_run T (P := P) hb' (hρ l (by simp [Op.operands])) (hρ c (by simp [Op.operands]))
    refine ⟨cs, e, s, fun b => .slice (some ⟨b, 0, none⟩) n m, e1, e2, plain e2, refers_slice n m, ?_⟩
    simp only [execOp, Sem.run_bind, e3, Result.andThen_ok, Sem.run_pure]

section
variable {E : Env} {callF : FuncId → List Value → Heap → Option (Value × Heap)} {ops : Array Oper} {st : Nat → St} {anc : Nat → Nat → Prop} {pos : Nat → Nat} {fr : Nat → Bool}
variable {P : Program} {G : GS} {B : Nat} {W0 : World} {μ0 : Mu} {listed : Array Bool} {a : Act} {w : World}

theorem GOk.monoV {μ μ' : Mu} (h : GOk G B W0 μ) (hm : μ.leV μ') : GOk G B W0 μ' := ⟨fun g hg => let ⟨ex, e⟩ := h.1 g hg; ⟨ex, hm.1 _ _ e⟩, h.2.1, h.2.2.trans hm⟩

theorem Drawn.stepOk (D : Drawn E callF ops st anc pos fr) (T : TyOk P E) (X : XOk P E G) (C : CallOk P G callF) (hok : okOps G.ng ops = true)
    {i : Nat} {Q : Exit → Act → World → Prop} {K : Act → World → Prop} {μ1 : Mu} {p1 : Nat} {pd1 : Nat → Option Nat}
    (I1 : DI E G B W0 ops st pos fr μ0 listed a w μ1 p1 pd1) (hi : i ∈ Region.ready .any ops listed)
    (hK : ∀ a' w' μ' p' pd', DI E G B W0 ops st pos fr μ0 (listed.setIfInBounds i true) a' w' μ' p' pd' → K a' w') : wpOp P ops Q i K a w := by
  obtain ⟨hl0, o, ho, hedge⟩ := mem_ready.1 hi
  have hlt : i < ops.size := lt_of ho
  have hnl : ¬ listed.getD i false = true := getD_true_of_false (by rw [I1.lsize]; exact hlt) hl0
  obtain ⟨μ, p, pd, I, hmax⟩ := DI.norm D _ rfl I1
  clear I1
  have anc1 : ∀ j, anc i j → listed.getD j false = true := fun j h => I.anc_listed D ho hedge h
  have anc2 : ∀ j oj, ops[j]? = some oj → anc j i → ¬ listed.getD j false = true := fun j oj hj ha hl => hnl (I.anc_listed D hj (I.closed j oj hj hl) ha)
  have nepd : ∀ A b, pd A = some b → A ≠ i := fun A b h e => hnl (e ▸ (I.pend A b h).l)
  -- no pending allocation meets the operation
  have nocon : ∀ A b oA, pd A = some b → ops[A]? = some oA → o.apart ops oA = true ∧ oA.apart ops o = true := by
    intro A b oA hA hoA
    have PA := I.pend A b hA
    have key : o.apart ops oA = false ∨ oA.apart ops o = false → False := by
      intro hc
      have sym : o.apart ops oA = false := by
        rcases hc with h | h
        · exact h
        · cases hh : o.apart ops oA with
          | false => rfl
          | true =>
            exfalso
            obtain ⟨s1, s2, s3⟩ := Oper.apart_spec hh
            have : oA.apart ops o = true := by
              unfold Oper.apart
              simp only [Bool.and_eq_true]
              constructor
              · split
                · rename_i d hd
                  have h3 := s3 d hd
                  have h2 : o.dst ≠ some d := fun e => s2 d e hd
                  simp [h3, h2]
                · rfl
              · split
                · rename_i d hd
                  have h1 := s1 d hd
                  simp [h1]
                · rfl
            rw [this] at h; cases h
      rcases D.tri hlt PA.lt with h | h | h
      · -- the allocation stands ahead
        have hle := PA.q
        rcases hmax with e | ⟨k, ok, hk, e, hkr, hkl⟩
        · have := D.lt A PA.lt; omega
        · have hne : pos k ≠ pos A := fun e2 => hkl (by rw [D.inj k A (lt_of hk) PA.lt e2]; exact PA.l)
          exact hkl (anc1 k (D.look i A o oA ho hoA PA.f h sym k ok hk (by omega) hkr))
      · exact nepd A b hA h
      · rcases D.ord A i oA o h hoA ho with h1 | ⟨h1, _⟩
        · exact anc2 A oA hoA h1 PA.l
        · rcases hc with h2 | h2
          · obtain ⟨s1, s2, s3⟩ := Oper.apart_spec h1
            have : o.apart ops oA = true := by
              unfold Oper.apart
              simp only [Bool.and_eq_true]
              constructor
              · split
                · rename_i d hd
                  have h3 := s3 d hd
                  have h2 : oA.dst ≠ some d := fun e => s2 d e hd
                  simp [h3, h2]
                · rfl
              · split
                · rename_i d hd
                  have h1 := s1 d hd
                  simp [h1]
                · rfl
            rw [this] at sym; cases sym
          · rw [h1] at h2; cases h2
    constructor
    · cases h : o.apart ops oA with
      | true => rfl
      | false => exact (key (.inl h)).elim
    · cases h : oA.apart ops o with
      | true => rfl
      | false => exact (key (.inr h)).elim
  have looks : ∀ t ∈ o.looksAt ops, VR μ ((st (pos i)).rd t) (a.tmps.getD t undef) := by
    intro t ht
    obtain ⟨q, hq, hv, hw⟩ := I.tmp t (by
      intro A oA hA hoA hd
      cases hb : pd A with
      | none => exact hA hb
      | some b => exact (Oper.apart_spec (nocon A b oA hb hoA).1).2.2 t hd ht)
    have : (st q).rd t = (st (pos i)).rd t := by
      refine D.rd hq (Nat.le_of_lt (D.lt i hlt)) fun j oj hj hd => ?_
      rw [hw j oj hj hd]
      rcases D.tri hlt (lt_of hj) with h | h | h
      · refine ⟨fun _ => h, fun _ => ?_⟩
        rcases D.ord i j o oj h ho hj with h1 | ⟨h1, _⟩
        · exact anc1 j h1
        · exact absurd ht ((Oper.apart_spec h1).2.2 t hd)
      · subst h; exact ⟨fun h => absurd h hnl, fun h => absurd h (Nat.lt_irrefl _)⟩
      · refine ⟨fun hl => ?_, fun h' => by omega⟩
        rcases D.ord j i oj o h hj ho with h1 | ⟨h1, _⟩
        · exact absurd hl (anc2 j oj hj h1)
        · exact absurd ht ((Oper.apart_spec h1).1 t hd)
    rw [← this]; exact hv
  obtain ⟨v, hm, hn, hd1, hd2⟩ := step_inv (D.step i o ho)
  have hls : i < listed.size := by rw [I.lsize]; exact hlt
  have hset : ∀ j, (listed.setIfInBounds i true).getD j false = true ↔ j = i ∨ listed.getD j false = true := by
    intro j
    by_cases e : j = i
    · subst e; simp [hls]
    · rw [getD_set_ne false (Ne.symm e)]; simp [e]
  have hput : ∀ (v' : Value) t, o.dst ≠ some t → (a.put o.dst v').tmps.getD t undef = a.tmps.getD t undef := by
    intro v' t ht
    cases hd : o.dst with
    | none => rfl
    | some d =>
      have : d ≠ t := fun e => ht (by rw [hd, e])
      simp [Act.put, Array.getElem?_setIfInBounds_ne this]
  have hputD : ∀ (v' : Value) t, o.dst = some t → (a.put o.dst v').tmps.getD t undef = v' := by
    intro v' t ht
    have : t < a.tmps.size := by rw [I.size, ← D.n _ (Nat.le_of_lt (D.lt i hlt))]; exact (hd1 t ht).1
    rw [ht]
    simp [Act.put, this]
  have hsize : ∀ v', (a.put o.dst v').tmps.size = (st 0).n := by intro v'; cases o.dst <;> simp [Act.put, I.size]
  have hdef : ∀ v', (a.put o.dst v').defers = [] := by intro v'; cases o.dst <;> simp [Act.put, I.defers]
  have hclosed : ∀ k ok, ops[k]? = some ok → (listed.setIfInBounds i true).getD k false = true → ∀ e ∈ ok.after, Region.binds .any e = true → (listed.setIfInBounds i true).getD e.on false = true := by
    intro k ok hk hl e he hb
    rw [hset] at hl ⊢
    rcases hl with rfl | hl
    · rw [ho] at hk; cases hk; exact .inr (hedge e he hb)
    · exact .inr (I.closed k ok hk hl e he hb)
  -- writers of the slot that is written
  have hwr : ∀ t, o.dst = some t → ∀ j oj, ops[j]? = some oj → oj.dst = some t → (pos j < pos i + 1 ↔ (listed.setIfInBounds i true).getD j false = true) := by
    intro t ht j oj hj hd
    rw [hset]
    rcases D.tri hlt (lt_of hj) with h | h | h
    · refine ⟨fun _ => .inr ?_, fun _ => by omega⟩
      rcases D.ord i j o oj h ho hj with h1 | ⟨h1, _⟩
      · exact anc1 j h1
      · exact absurd hd ((Oper.apart_spec h1).2.1 t ht)
    · subst h; exact ⟨fun _ => .inl rfl, fun _ => by omega⟩
    · refine ⟨fun h' => by omega, fun hl => ?_⟩
      rcases hl with rfl | hl
      · omega
      rcases D.ord j i oj o h hj ho with h1 | ⟨h1, _⟩
      · exact absurd hl (anc2 j oj hj h1)
      · exact absurd ht ((Oper.apart_spec h1).2.1 t hd)
  have hwn : ∀ t, o.dst ≠ some t → ∀ q, (∀ j oj, ops[j]? = some oj → oj.dst = some t → (pos j < q ↔ listed.getD j false = true)) → ∀ j oj, ops[j]? = some oj → oj.dst = some t → (pos j < q ↔ (listed.setIfInBounds i true).getD j false = true) := by
    intro t ht q hw j oj hj hd
    rw [hset, hw j oj hj hd]
    refine ⟨.inr, fun h => h.resolve_left ?_⟩
    rintro rfl
    rw [ho] at hj; cases hj
    exact ht hd
  -- the pending ones, later
  have hpend : ∀ (μ' : Mu) (p' : Nat) (v' : Value), (∀ A b, pd A = some b → p' ≤ pos A) → (∀ A b, pd A = some b → μ'.kp b = μ.kp b) → ∀ A b, pd A = some b → Pend ops st pos fr μ0 B (listed.setIfInBounds i true) (a.put o.dst v') μ' p' A b := by
    intro μ' p' v' hp' hkp A b hA
    have PA := I.pend A b hA
    obtain ⟨oA, cs, e, s, val, r1, r2, r3, r4, r5, r6⟩ := PA.row
    have ap := nocon A b oA hA r1
    refine ⟨PA.lt, PA.f, (hset A).2 (.inr PA.l), hp' A b hA, ⟨oA, cs, e, s, val, r1, r2, r3, (hkp A b hA).trans r4, fun t ht => ?_, r6⟩, PA.kb, PA.B, ?_⟩
    · obtain ⟨x1, x2⟩ := r5 t ht
      refine ⟨?_, x2⟩
      rw [hput v' t (fun e => (Oper.apart_spec ap.1).2.1 t e ht)]; exact x1
    · intro k ok oi hk hoi hlt' hap hl
      rw [hset] at hl
      rcases hl with rfl | hl
      · rw [r1] at hoi; cases hoi
        rw [ho] at hk; cases hk
        rw [ap.1] at hap; cases hap
      · exact PA.nol k ok oi hk hoi hlt' hap hl
  -- where the heap's place stays
  have stay : ∀ (μ' : Mu) (v' : Value) (w' : World), μ.le μ' → VR μ' v v' → HR B W0 μ' (st p).H w' → (readsOnly E o = true ∨ (fr i = true ∧ (st (pos i + 1)).H = (st (pos i)).H)) →
      DI E G B W0 ops st pos fr μ0 (listed.setIfInBounds i true) (a.put o.dst v') w' μ' p pd := by
    intro μ' v' w' hle hv hr' hkind
    refine ⟨hsize v', hdef v', by simp [I.lsize], hclosed, I.gok, I.le0.trans hle.v, fun b hb => (hle.2.2 b).trans (I.kp0 b hb), I.hp, hr', ?_, ?_, ?_, ?_, I.pinj, ?_⟩
    · intro j oj hj he hf
      rw [hset, I.eff j oj hj he hf]
      refine ⟨.inr, fun h => h.resolve_left ?_⟩
      rintro rfl
      rw [ho] at hj; cases hj
      rcases hkind with h | h
      · rw [h] at he; cases he
      · rw [h.1] at hf; cases hf
    · intro j hj hf hlt'
      exact (hset j).2 (.inr (I.fre j hj hf hlt'))
    · intro j oj hj hf hl hle' hn
      rcases (hset j).1 hl with rfl | hl
      · rw [ho] at hj; cases hj
        rcases hkind with h | h
        · have := (D.frBS _ _ ho hf).1; rw [h] at this; cases this
        · exact h.2
      · exact I.pall j oj hj hf hl hle' hn
    · exact hpend μ' p v' (fun A b h => (I.pend A b h).q) (fun A b _ => hle.2.2 b)
    · intro t ht
      by_cases hdt : o.dst = some t
      · refine ⟨pos i + 1, D.lt i hlt, ?_, hwr t hdt⟩
        rw [hputD v' t hdt, (hd1 t hdt).2]; exact hv
      · obtain ⟨q, hq, hvq, hwq⟩ := I.tmp t ht
        refine ⟨q, hq, ?_, hwn t hdt q hwq⟩
        rw [hput v' t hdt]; exact hvq.mono hle
  have gok : GOk G B W0 μ := I.gok.monoV I.le0
  cases hro : readsOnly E o with
  | true =>
    have hmk : Makes E callF ops.toList (st (pos i)) o (st p).H v (st p).H := by
      rcases hm with ⟨h1, h2, _⟩ | ⟨h1, h2 | ⟨f, args, h2, _⟩⟩
      · exact .inl ⟨h1, h2, rfl⟩
      · refine .inr ⟨h1, .inl ?_⟩
        obtain ⟨v', hv'⟩ := reads_same hro h2
        injection hv' with e1 hH
        subst e1
        cases hf : heapFree (st (pos i)).ev o with
        | true => rw [hH] at h2; exact heapFree_same hf h2
        | false =>
          rcases D.chk i o ho hro h1 hf p (by
            rcases hmax with e | ⟨j, oj, hj, e, hjr, _⟩
            · exact .inl e
            · exact .inr ⟨j, oj, e, hj, hjr⟩) (fun j oj hj he => ⟨fun hf h => (I.eff j oj hj he hf).2 (anc1 j h), fun h => by
              rcases Nat.lt_or_ge (pos j) p with h1 | h1
              · cases hfj : fr j with
                | true => exact absurd (I.fre j (lt_of hj) hfj h1) (anc2 j oj hj h)
                | false => exact absurd ((I.eff j oj hj he hfj).1 h1) (anc2 j oj hj h)
              · exact h1⟩) with hs | hs
          · unfold sameAtA at hs
            rw [h2] at hs
            split at hs
            · rename_i v1 H1 v2 H2' e1 e2
              cases e1
              obtain ⟨v3, e3⟩ := reads_same hro e2
              cases e3
              rw [veq_sound _ _ _ hs]; exact e2
            · cases hs
          · rw [hs]; rw [hH] at h2; exact h2
      · obtain ⟨v', e⟩ := reads_same hro h2; cases e
    refine step_at T X C ho (okOps_spec hok ho) looks hmk I.hr gok ?_
    intro μ' v' w' hle hv hr'
    exact hK _ _ _ _ _ (stay μ' v' w' hle hv hr' (.inl hro))
  | false =>
    cases hf : fr i with
    | false =>
      -- an effect: its place is the heap's
      have hpi : p = pos i := by
        rcases Nat.lt_or_ge (pos i) p with h | h
        · exact absurd ((I.eff i o ho hro hf).1 h) hnl
        · rcases hmax with e | ⟨k, ok, hk, e, hkr, hkl⟩
          · have := D.lt i hlt; omega
          · rcases D.tri hlt (lt_of hk) with h2 | h2 | h2
            · rcases D.ord i k o ok h2 ho hk with h3 | ⟨_, h3 | h3 | h3⟩
              · exact absurd (anc1 k h3) hkl
              · rw [hro] at h3; cases h3
              · rw [hkr] at h3; cases h3
              · rw [hf] at h3; cases h3
            · subst h2; exact e
            · omega
      subst hpi
      refine step_at T X C ho (okOps_spec hok ho) looks hm I.hr gok ?_
      intro μ' v' w' hle hv hr'
      refine hK _ _ μ' (pos i + 1) pd ⟨hsize v', hdef v', by simp [I.lsize], hclosed, I.gok, I.le0.trans hle.v, fun b hb => (hle.2.2 b).trans (I.kp0 b hb), D.lt i hlt, hr', ?_, ?_, ?_, ?_, I.pinj, ?_⟩
      · intro j oj hj he hfj
        rw [hset]
        have := I.eff j oj hj he hfj
        constructor
        · intro h
          rcases D.tri hlt (lt_of hj) with h2 | h2 | h2
          · exact .inr (this.1 h2)
          · exact .inl h2
          · omega
        · rintro (rfl | h)
          · omega
          · have := this.2 h; omega
      · intro j hj hfj hlt'
        rw [hset]
        have hne : j ≠ i := by rintro rfl; rw [hf] at hfj; cases hfj
        rcases D.tri hlt hj with h2 | h2 | h2
        · exact .inr (I.fre j hj hfj h2)
        · exact .inl h2
        · omega
      · intro j oj hj hfj hl hle' hn
        have hne : j ≠ i := by rintro rfl; rw [hf] at hfj; cases hfj
        rcases (hset j).1 hl with h | h
        · exact absurd h hne
        · exact I.pall j oj hj hfj h (by omega) hn
      · refine hpend μ' (pos i + 1) v' (fun A b h => ?_) (fun A b _ => hle.2.2 b)
        have PA := I.pend A b h
        have := PA.q
        have hne : pos A ≠ pos i := fun e => nepd A b h (D.inj A i PA.lt hlt e)
        omega
      · intro t ht
        by_cases hdt : o.dst = some t
        · refine ⟨pos i + 1, D.lt i hlt, ?_, hwr t hdt⟩
          rw [hputD v' t hdt, (hd1 t hdt).2]; exact hv
        · obtain ⟨q, hq, hvq, hwq⟩ := I.tmp t ht
          refine ⟨q, hq, ?_, hwn t hdt q hwq⟩
          rw [hput v' t hdt]; exact hvq.mono hle
    | true =>
      have hpi : p ≤ pos i := by
        rcases Nat.lt_or_ge (pos i) p with h | h
        · exact absurd (I.fre i hlt hf h) hnl
        · exact h
      rcases hm with ⟨h1, h2, h3⟩ | ⟨h1, h2⟩
      · -- not wanted
        refine step_at (H := (st p).H) (H2 := (st p).H) (v := v) T X C ho (okOps_spec hok ho) looks (.inl ⟨h1, h2, rfl⟩) I.hr gok ?_
        intro μ' v' w' hle hv hr'
        exact hK _ _ _ _ _ (stay μ' v' w' hle hv hr' (.inr ⟨hf, h3⟩))
      · obtain ⟨v1, H1, p1, p2⟩ := D.frPl i o ho hf h1
        have h2' : aop E (st (pos i)).ev o (st (pos i)).H = some (.val v (st (pos i + 1)).H) := by
          rcases h2 with h2 | ⟨f, args, h2, _⟩
          · exact h2
          · rw [p1] at h2; cases h2
        have eH : H1 = (st (pos i + 1)).H := by
          have := p1.symm.trans h2'
          injection this with this
          injection this
        rw [eH] at p2
        have hbs := (D.frBS i o ho hf).2
        obtain ⟨r', e, s, val, e1, e2, hpl, href, hrun⟩ := free_run T (P := P) (w := w) hbs h2' (fun x hx => looks_ok looks gok hx (okOps_spec hok ho x hx)) I.hr.atoms p2
        unfold wpOp
        simp only [ho]
        rw [wanted_at looks h1]
        simp only [if_true]
        left
        unfold Oper.wp
        rw [hrun]
        simp only [Oper.upon]
        have hr2 := I.hr.pend (.cells r'.toArray e)
        have hsz : ∀ A b, pd A = some b → b ≠ w.heap.size := by
          intro A b hA
          obtain ⟨oA, cs', e', s', val', _, _, _, k4, _⟩ := (I.pend A b hA).row
          have := (Array.getElem?_eq_some_iff.1 (I.hr.kept b _ k4)).1
          omega
        have hk0 : μ0.kp w.heap.size = none := by
          rw [← I.kp0 _ (fun A hA => hsz A _ hA rfl)]
          exact I.hr.kp_top
        refine hK _ _ (μ.keep w.heap.size (.cells r'.toArray e)) p (fun A => if A = i then some w.heap.size else pd A) ⟨hsize _, hdef _, by simp [I.lsize], hclosed, I.gok, I.le0.trans (Mu.leV_keep _ _ _), ?_, I.hp, hr2, ?_, ?_, ?_, ?_, ?_, ?_⟩
        · intro b hb'
          show (if b = w.heap.size then _ else μ.kp b) = μ0.kp b
          have hbi := hb' i
          rw [if_pos rfl] at hbi
          rw [if_neg (fun e => hbi (by rw [e]))]
          refine I.kp0 b fun A hA => ?_
          have := hb' A
          rw [if_neg (nepd A b hA)] at this
          exact this hA
        · intro j oj hj he hfj
          rw [hset, I.eff j oj hj he hfj]
          refine ⟨.inr, fun h => h.resolve_left ?_⟩
          rintro rfl
          rw [hf] at hfj; cases hfj
        · intro j hj hfj hlt'
          exact (hset j).2 (.inr (I.fre j hj hfj hlt'))
        · intro j oj hj hfj hl hle' hn
          by_cases e6 : j = i
          · rw [if_pos e6] at hn; cases hn
          · rw [if_neg e6] at hn
            rcases (hset j).1 hl with h | h
            · exact absurd h e6
            · exact I.pall j oj hj hfj h hle' hn
        · intro A b hA
          by_cases e6 : A = i
          · subst e6
            rw [if_pos rfl] at hA
            cases hA
            refine ⟨hlt, hf, (hset A).2 (.inl rfl), hpi, ⟨_, r', e, s, val, ho, e2, hpl, ?_, fun t' ht' => ?_, href⟩, hk0, I.hr.base, ?_⟩
            · show (if w.heap.size = w.heap.size then _ else _) = _
              rw [if_pos rfl]
            · refine ⟨hputD _ t' ht', ?_⟩
              rw [(hd1 t' ht').2, e1]
            · intro k ok oi hk hoi hlt' hap hl
              rw [ho] at hoi; cases hoi
              rw [hset] at hl
              rcases hl with rfl | hl
              · omega
              · rcases D.ord k A ok _ hlt' hk ho with h | ⟨h, _⟩
                · exact anc2 k ok hk h hl
                · rw [h] at hap; cases hap
          · rw [if_neg e6] at hA
            refine hpend (μ.keep w.heap.size (.cells r'.toArray e)) p _ (fun A b h => (I.pend A b h).q) (fun A b h => ?_) A b hA
            show (if b = w.heap.size then _ else μ.kp b) = μ.kp b
            rw [if_neg (hsz A b h)]
        · intro A A' b hA hA'
          by_cases e6 : A = i
          · by_cases e7 : A' = i
            · rw [e6, e7]
            · rw [if_pos e6] at hA; rw [if_neg e7] at hA'
              cases hA
              exact absurd rfl (hsz A' _ hA')
          · by_cases e7 : A' = i
            · rw [if_neg e6] at hA; rw [if_pos e7] at hA'
              cases hA'
              exact absurd rfl (hsz A _ hA)
            · rw [if_neg e6] at hA; rw [if_neg e7] at hA'
              exact I.pinj A A' b hA hA'
        · intro t' ht'
          have hdt : o.dst ≠ some t' := ht' i _ (by rw [if_pos rfl]; simp) ho
          obtain ⟨q, hq, hvq, hwq⟩ := I.tmp t' (by
            intro A oA hA hoA
            refine ht' A oA ?_ hoA
            by_cases e6 : A = i
            · rw [if_pos e6]; simp
            · rw [if_neg e6]; exact hA)
          refine ⟨q, hq, ?_, hwn t' hdt q hwq⟩
          rw [hput _ t' hdt]; exact hvq.monoV (Mu.leV_keep _ _ _)

theorem Drawn.all (D : Drawn E callF ops st anc pos fr) (hs : listed.size = ops.size) (hr : Region.ready .any ops listed = []) : ∀ i, i < ops.size → listed.getD i false = true := by
  suffices h : ∀ (q i : Nat), i < ops.size → pos i = q → listed.getD i false = true from fun i hi => h (pos i) i hi rfl
  intro q
  induction q using Nat.strongRecOn with
  | _ q ih =>
    intro i hi hq
    cases hl : listed.getD i false with
    | true => rfl
    | false =>
      have : i ∈ Region.ready .any ops listed := by
        refine mem_ready.2 ⟨?_, ops[i], Array.getElem?_eq_getElem hi, fun e he hb => ?_⟩
        · have : i < listed.size := by omega
          simp [this] at hl ⊢
          exact hl
        · obtain ⟨b1, b2⟩ := D.back i _ (Array.getElem?_eq_getElem hi) e he hb
          exact ih (pos e.on) (by omega) e.on b1 rfl
      rw [hr] at this; simp at this

theorem Drawn.last (D : Drawn E callF ops st anc pos fr) {μ1 : Mu} {p1 : Nat} {pd1 : Nat → Option Nat}
    (I1 : DI E G B W0 ops st pos fr μ0 listed a w μ1 p1 pd1) (hall : ∀ i, i < ops.size → listed.getD i false = true) : ∃ μ', μ0.le μ' ∧ SR μ' (st ops.size) a ∧ HR B W0 μ' (st ops.size).H w := by
  obtain ⟨μ, p, pd, I, hmax⟩ := DI.norm D _ rfl I1
  have hp : p = ops.size := by
    rcases hmax with e | ⟨j, o, hj, _, _, hl⟩
    · exact e
    · exact absurd (hall j (lt_of hj)) hl
  subst hp
  have hnone : ∀ i b, pd i ≠ some b := fun i b h => by
    have P := I.pend i b h
    have := P.q
    have := D.lt i P.lt
    omega
  refine ⟨μ, ⟨I.le0.1, I.le0.2, fun b => I.kp0 b fun i => hnone i b⟩, ⟨by rw [I.size, D.n _ (Nat.le_refl _)], fun t => ?_, I.defers⟩, I.hr⟩
  obtain ⟨q, hq, hv, hw⟩ := I.tmp t (fun i o h => by
    cases hb : pd i with
    | none => exact absurd hb h
    | some b => exact absurd hb (hnone i b))
  rw [← D.rd hq (Nat.le_refl _) fun j oj hj hd => ?_]
  · exact hv
  · have hlt := lt_of hj
    rw [hw j oj hj hd]; exact ⟨fun _ => D.lt j hlt, fun _ => hall j hlt⟩

theorem count_set {i : Nat} (hi : i < listed.size) (hl : listed.getD i false = false) : (listed.setIfInBounds i true).count false + 1 = listed.count false := by
  have h1 : listed[i] = false := by simpa [hi] using hl
  have h2 : 0 < listed.count false := by
    rw [Array.count_pos_iff]
    exact h1 ▸ Array.getElem_mem hi
  rw [Array.setIfInBounds_def, dif_pos hi, Array.count_set hi]
  simp [h1]
  omega

theorem Drawn.anyOk (D : Drawn E callF ops st anc pos fr) (T : TyOk P E) (X : XOk P E G) (C : CallOk P G callF) (hok : okOps G.ng ops = true)
    {Q : Exit → Act → World → Prop} (hQ : ∀ μ' a' w', μ0.le μ' → SR μ' (st ops.size) a' → HR B W0 μ' (st ops.size).H w' → Q .normal a' w') :
    ∀ (fuel : Nat) (μ : Mu) (p : Nat) (pd : Nat → Option Nat) (listed : Array Bool) (a : Act) (w : World), listed.count false ≤ fuel → DI E G B W0 ops st pos fr μ0 listed a w μ p pd → wpAny P .any ops Q fuel listed a w := by
  intro fuel
  induction fuel with
  | zero =>
    intro μ p pd listed a w hc I
    have hr : Region.ready .any ops listed = [] := by
      rcases hq : Region.ready .any ops listed with _ | ⟨i, r⟩
      · rfl
      · exfalso
        obtain ⟨hl0, o, ho, _⟩ := mem_ready.1 (show i ∈ Region.ready .any ops listed by rw [hq]; simp)
        have hlt : i < listed.size := by rw [I.lsize]; exact lt_of ho
        have := count_set hlt (by simpa using getD_true_of_false hlt hl0)
        omega
    obtain ⟨μ', h0, h1, h2⟩ := D.last I (D.all I.lsize hr)
    exact ⟨hr, hQ μ' a w h0 h1 h2⟩
  | succ fuel ih =>
    intro μ p pd listed a w hc I
    refine ⟨fun hr => ?_, fun i hi => ?_⟩
    · obtain ⟨μ', h0, h1, h2⟩ := D.last I (D.all I.lsize hr)
      exact hQ μ' a w h0 h1 h2
    · refine D.stepOk T X C hok I hi fun a' w' μ' p' pd' I' => ?_
      refine ih μ' p' pd' _ a' w' ?_ I'
      obtain ⟨hl0, o, ho, _⟩ := mem_ready.1 hi
      have hlt : i < listed.size := by rw [I.lsize]; exact lt_of ho
      have := count_set hlt (by simpa using getD_true_of_false hlt hl0)
      omega
end
end Go.Vsx
