/- The operations are right, 8: maps. -/
import Derived.Test.YtfahjdpepgedpaaGreatDoorVOps7
set_option linter.all false
namespace Go.Vsx
open Go Go.RowKit

def MEs (μ : Mu) (es : List MapEntry) (es' : List MapEntry) : Prop := es.length = es'.length ∧ ∀ (i : Nat) e e', es[i]? = some e → es'[i]? = some e' → ME μ e e'

theorem MEs.nil_inv {μ : Mu} {l : List MapEntry} (h : MEs μ [] l) : l = [] := by have := h.1; simp at this; exact List.eq_nil_of_length_eq_zero this.symm
theorem MEs.cons_inv {μ : Mu} {e : MapEntry} {es l : List MapEntry} (h : MEs μ (e :: es) l) : ∃ e' es', l = e' :: es' ∧ ME μ e e' ∧ MEs μ es es' := by
  cases l with
  | nil => have := h.1; simp at this
  | cons e' es' =>
    refine ⟨e', es', rfl, h.2 0 e e' rfl rfl, by simpa using h.1, fun i a b x y => h.2 (i + 1) a b (by simpa using x) (by simpa using y)⟩

section
variable {P : Program} {E : Env} (T : TyOk P E) {B : Nat} {W0 w : World} {μ : Mu} {H H' : Heap}

theorem keySame_ok {d : TypeDesc} {k k2 k' k2' : Value} {b : Bool} (h : keySame d k k2 = some b) (hk : VR μ k k') (hk2 : VR μ k2 k2') : Instr.sameNow d k' k2' = some b := by
  unfold keySame at h
  split at h
  · cases hk; cases hk2
    split at h
    · exact h
    · cases h
  · cases hk; cases hk2
    split at h
    · exact h
    · cases h
  · cases hk; cases hk2
    split at h
    · exact h
    · cases h
  · cases h

def FR (μ : Mu) : Option (Nat × Value) → Option (Nat × Value) → Prop
  | none, none => True
  | some a, some b => a.1 = b.1 ∧ VR μ a.2 b.2
  | _, _ => False

theorem findNow_ok (Y : SymOk E μ) {kt : TypeId} {d : TypeDesc} {k k' : Value} (hd : tyD E kt = some d) (hb : (∃ j, d = .int j) ∨ d = .string ∨ d = .bool) (hk : VR μ k k') :
    ∀ (es es' : List MapEntry) (i : Nat) (r : Option (Nat × Value)), findA E kt k es i = some r → MEs μ es es' → ∃ r', Instr.findNow d k' es' i = some r' ∧ FR μ r r'
  | [], es', i, r, h, hm => by
    simp only [findA, Option.some.injEq] at h
    subst h
    have := hm.nil_inv
    subst this
    exact ⟨none, rfl, trivial⟩
  | e :: es, l, i, r, h, hm => by
    obtain ⟨e', es', rfl, h1, h2⟩ := hm.cons_inv
    have key : ∀ b, keyEqA E kt k e.key = some b → Instr.sameNow d k' e'.key = some b := by
      intro b hq
      simp only [keyEqA, hd] at hq
      rcases hb with ⟨j, rfl⟩ | rfl | rfl
      · have hq2 : (match symEq E k e.key with
            | some b => some b
            | none => keySame (.int j) k e.key) = some b := hq
        clear hq
        split at hq2
        · rename_i b' hb'
          cases hq2
          obtain ⟨kk, a, c, rfl, e2, rfl⟩ := symEq_ok Y hb' hk h1.1
          rw [e2]
          exact keySame_ok (μ := μ) (k := .int kk a) (k2 := .int kk c) (by simp [keySame]) (.int _ _) (.int _ _)
        · exact keySame_ok hq2 hk h1.1
      · have hq2 : (match symEqS E k e.key with
            | some b => some b
            | none => keySame .string k e.key) = some b := hq
        clear hq
        split at hq2
        · rename_i b' hb'
          cases hq2
          obtain ⟨s, t, rfl, e2, rfl⟩ := symEqS_ok Y hb' hk h1.1
          rw [e2]
          exact keySame_ok (μ := μ) (k := .string s) (k2 := .string t) (by simp [keySame]) (.str _) (.str _)
        · exact keySame_ok hq2 hk h1.1
      · exact keySame_ok hq hk h1.1
    simp only [findA] at h
    split at h
    · rename_i hq
      cases h
      exact ⟨some (i, e'.val), by simp only [Instr.findNow, key _ hq], rfl, h1.2.1⟩
    · rename_i hq
      obtain ⟨r', a, b⟩ := findNow_ok Y hd hb hk es es' (i + 1) r h h2
      exact ⟨r', by simp only [Instr.findNow, key _ hq, a], b⟩
    · cases h

include T
theorem findAsk_ok (Y : SymOk E μ) {kt : TypeId} {fs : Array Field} {k k' : Value} (hd : tyD E kt = some (.struct fs)) (hk : VR μ k k') :
    ∀ (es es' : List MapEntry) (i : Nat) (r : Option (Nat × Value)), findA E kt k es i = some r → MEs μ es es' → ∃ r', (Instr.findAsking kt k' es' i).run P w = .ok r' w ∧ FR μ r r' ∧ (es ≠ [] → Instr.findNow (.struct fs) k' es' i = none)
  | [], es', i, r, h, hm => by
    simp only [findA, Option.some.injEq] at h
    subst h
    have := hm.nil_inv
    subst this
    exact ⟨none, by simp [Instr.findAsking], trivial, fun h => absurd rfl h⟩
  | e :: es, l, i, r, h, hm => by
    obtain ⟨e', es', rfl, h1, h2⟩ := hm.cons_inv
    have key : ∀ b, keyEqA E kt k e.key = some b → (Op.equal kt k' e'.key).run P w = .ok b w ∧ Instr.sameNow (.struct fs) k' e'.key = none := by
      intro b hq
      simp only [keyEqA, hd] at hq
      split at hq
      case h_2 => cases hq
      case h_1 a b' _ hke =>
        have hke' := h1.1
        rw [hke] at hke'
        refine ⟨eqA_ok T (w := w) Y 100 Op.maxDepth kt _ _ _ _ b (by decide) hq hk hke', ?_⟩
        generalize e'.key = k2' at hke' ⊢
        cases hk; cases hke'; rfl
    simp only [findA] at h
    split at h
    · rename_i hq
      cases h
      obtain ⟨k1, k2⟩ := key _ hq
      exact ⟨some (i, e'.val), by simp [Instr.findAsking, k1], ⟨rfl, h1.2.1⟩, fun _ => by simp only [Instr.findNow, k2]⟩
    · rename_i hq
      obtain ⟨k1, k2⟩ := key _ hq
      obtain ⟨r', a, b, _⟩ := findAsk_ok Y hd hk es es' (i + 1) r h h2
      exact ⟨r', by simp [Instr.findAsking, k1, a], b, fun _ => by simp only [Instr.findNow, k2]⟩
    · cases h

theorem checkKey_ok : ∀ (n N : Nat) (t : TypeId) (v v' : Value) (empty : Bool), n ≤ N → checkA E n t v = true → VR μ v v' → (Instr.checkKey empty N t v').run P w = .ok () w
  | 0, _, _, _, _, _, _, h, _ => by simp [checkA] at h
  | n + 1, N, t, v, v', empty, hle, h, hv => by
    obtain ⟨N, rfl⟩ : ∃ N', N = N' + 1 := ⟨N - 1, by omega⟩
    simp only [checkA] at h
    split at h
    · rename_i hd; simp only [Instr.checkKey, Sem.run_bind, T.run_und hd, Result.andThen_ok]; rfl
    · rename_i hd; simp only [Instr.checkKey, Sem.run_bind, T.run_und hd, Result.andThen_ok]; rfl
    · rename_i hd; simp only [Instr.checkKey, Sem.run_bind, T.run_und hd, Result.andThen_ok]; rfl
    · rename_i fs cs hd
      cases hv with
      | agg _ cs' hs hcs =>
      simp only [Instr.checkKey, Sem.run_bind, T.run_und hd, Result.andThen_ok]
      rw [← Array.forIn_toList]
      generalize fs.toList = l at h
      clear hd
      induction l with
      | nil => simp
      | cons f l ih =>
        simp only [List.all_cons, Bool.and_eq_true] at h
        obtain ⟨⟨hn, hf⟩, hr⟩ := h
        have hn' : f.name ≠ "_" := by simpa using hn
        split at hf
        case h_2 => cases hf
        case h_1 i hi =>
          split at hf
          case h_2 => cases hf
          case h_1 x hx =>
            obtain ⟨x', p1, p2⟩ := part_ok T (w := w) hi ⟨hs, hcs⟩ hx
            have hc := checkKey_ok n N f.type x x' empty (by omega) hf p2
            have ih' := ih hr
            simp only [List.forIn_cons, Sem.run_bind]
            rw [if_pos hn']
            simp only [Sem.run_bind, p1, hc, Result.andThen_ok, Sem.run_pure]
            exact ih'
    · cases h

theorem find_ok (Y : SymOk E μ) {kt : TypeId} {k k' : Value} (hk : VR μ k k') {es es' : List MapEntry} {r : Option (Nat × Value)} (h : findA E kt k es 0 = some r) (hc : checkA E 20 kt k = true) (hm : MEs μ es es') :
    ∃ r', (Instr.findKey kt k' es').run P w = .ok r' w ∧ FR μ r r' := by
  simp only [checkA] at hc
  have fast : ∀ d, tyD E kt = some d → ((∃ j, d = .int j) ∨ d = .string ∨ d = .bool) → ∃ r', (Instr.findKey kt k' es').run P w = .ok r' w ∧ FR μ r r' := by
    intro d hd hb
    obtain ⟨r', a, b⟩ := findNow_ok Y hd hb hk es es' 0 r h hm
    exact ⟨r', by simp [Instr.findKey, T.run_und hd, a], b⟩
  split at hc
  · rename_i hd; exact fast _ hd (.inl ⟨_, rfl⟩)
  · rename_i hd; exact fast _ hd (.inr (.inl rfl))
  · rename_i hd; exact fast _ hd (.inr (.inr rfl))
  · rename_i fs cs hd
    obtain ⟨r', a, b, c⟩ := findAsk_ok T (w := w) Y hd hk es es' 0 r h hm
    refine ⟨r', ?_, b⟩
    cases es with
    | nil =>
      have := hm.nil_inv
      subst this
      simp only [Instr.findAsking, Sem.run_pure, Result.ok.injEq, and_true] at a
      subst a
      simp [Instr.findKey, T.run_und hd, Instr.findNow]
    | cons e es => simp [Instr.findKey, T.run_und hd, c (by simp), a]
  · cases hc

omit T in
theorem HR.mapAt (hr : HR B W0 μ H w) {r : Nat} {es : List MapEntry} {clock : Nat} (hg : H.get r = some (.map es clock)) :
    ∃ p es', μ.pl r = some p ∧ w.heap[p.blk]? = some (.map es' clock) ∧ MEs μ es es'.toList := by
  obtain ⟨q, a, b, _⟩ := hr.obj r _ hg
  obtain ⟨es', hb, hl, hm⟩ := b
  exact ⟨q, es', a, hb, by simpa using hl, fun i e e' x y => hm i e e' x (by simpa using y)⟩

theorem lookup0_ok (Y : SymOk E μ) (hr : HR B W0 μ H w) {t : TypeId} {x k x' k' v : Value} {ok : Bool} (h : lookupA0 E H t x k ok = some v) (hx : VR μ x x') (hk : VR μ k k') : RdOk P μ w (Instr.lookup t x' k' ok) v := by
  unfold lookupA0 at h
  split at h
  case h_2 => cases h
  case h_1 kt et hd =>
  simp only [Option.bind_eq_bind, Option.bind_eq_some_iff] at h
  obtain ⟨es, hes, h⟩ := h
  split at h
  case isFalse => cases h
  case isTrue hc =>
  have tup : ∀ a a' b, VR μ a a' → VR μ (.tuple #[a, .bool b]) (.tuple #[a', .bool b]) := by
    intro a a' b ha
    have hl : VL μ [a, .bool b] [a', .bool b] := VL.cons ha (VL.cons (.bool b) VL.nil)
    exact .tuple _ _ hl.toArray.1 hl.toArray.2
  have tail : ∀ (es' : Array MapEntry), MEs μ es es'.toList → ∃ v', ((do
      Instr.checkKey es'.isEmpty 10000 kt k'
      let (v, ok2) ← match ← Instr.findKey kt k' es'.toList with
        | some (_, v) => pure (v, true)
        | none => pure (← zeroValue et, false)
      pure (if ok then .tuple #[v, .bool ok2] else v)) : Sem Value).run P w = .ok v' w ∧ VR μ v v' := by
    intro es' hm
    have hck := checkKey_ok T (w := w) 20 10000 kt k k' es'.isEmpty (by omega) hc hk
    split at h
    · rename_i i v0 hf
      obtain ⟨r', f1, f2⟩ := find_ok T (w := w) Y hk hf hc hm
      cases r' with
      | none => exact f2.elim
      | some a =>
        obtain ⟨i', v'⟩ := a
        obtain ⟨_, hv⟩ := f2
        cases h
        cases ok with
        | true => exact ⟨_, by simp only [Sem.run_bind, hck, f1, Result.andThen_ok, Sem.run_pure, if_true], tup _ _ _ hv⟩
        | false => exact ⟨_, by simp only [Sem.run_bind, hck, f1, Result.andThen_ok, Sem.run_pure]; rfl, hv⟩
    · rename_i hf
      obtain ⟨r', f1, f2⟩ := find_ok T (w := w) Y hk hf hc hm
      cases r' with
      | some a => exact f2.elim
      | none =>
        simp only [Option.map_eq_some_iff] at h
        obtain ⟨z, hz, h⟩ := h
        subst h
        have hzv := T.zeroVR hz μ
        cases ok with
        | true => exact ⟨_, by simp only [Sem.run_bind, hck, f1, T.run_zero hz, Result.andThen_ok, Sem.run_pure]; rfl, tup _ _ _ hzv⟩
        | false => exact ⟨_, by simp only [Sem.run_bind, hck, f1, T.run_zero hz, Result.andThen_ok, Sem.run_pure]; rfl, hzv⟩
    · cases h
  unfold getMap at hes
  split at hes
  · cases hes; cases hx
    obtain ⟨v', t1, t2⟩ := tail #[] ⟨rfl, by intro i e e' h; simp at h⟩
    refine ⟨v', ?_, t2⟩
    simp only [Sem.run_bind] at t1
    simp only [Instr.lookup, Sem.run_bind, T.run_und hd, Result.andThen_ok, Sem.run_pure]
    exact t1
  · rename_i r
    split at hes
    case h_2 => cases hes
    case h_1 es0 clock hg =>
      cases hes
      cases hx with
      | map _ p hp =>
      obtain ⟨q, es', a, b, c⟩ := hr.mapAt hg
      rw [a] at hp; cases hp
      obtain ⟨v', t1, t2⟩ := tail es' c
      refine ⟨v', ?_, t2⟩
      simp only [Sem.run_bind] at t1
      simp only [Instr.lookup, Sem.run_bind, T.run_und hd, Result.andThen_ok, getObj, Sem.run, b, Sem.run_pure]
      exact t1
  · cases hes

omit T in
theorem flatSame {n : Nat} {a b a' b' : Value} (h : flatEq a b = true) (ha : VR μ a a') (hb : VR μ b b') : Instr.sameBits n a' b' = true := by
  unfold flatEq at h
  split at h
  · cases ha; cases hb; cases n <;> simpa [Instr.sameBits] using h
  · cases ha; cases hb; cases n <;> simpa [Instr.sameBits] using h
  · cases ha; cases hb; cases n <;> simpa [Instr.sameBits] using h
  · cases h

omit T in
theorem flatSameS (Y : SymOk E μ) {n : Nat} {a b a' b' : Value} (h : flatEqS E a b = true) (ha : VR μ a a') (hb : VR μ b b') : Instr.sameBits n a' b' = true := by
  unfold flatEqS at h
  rw [Bool.or_eq_true] at h
  rcases h with h | h
  · exact flatSame h ha hb
  · split at h
    · rename_i c hc
      subst h
      obtain ⟨k, x, y, rfl, rfl, e⟩ := symEq_ok Y hc ha hb
      exact flatSame (μ := μ) (a := .int k x) (b := .int k y) (by simpa [flatEq] using e) (.int _ _) (.int _ _)
    · split at h
      · rename_i c hc
        subst h
        obtain ⟨x, y, rfl, rfl, e⟩ := symEqS_ok Y hc ha hb
        exact flatSame (μ := μ) (a := .string x) (b := .string y) (by simpa [flatEq] using e) (.str _) (.str _)
      · cases h

omit T in
theorem sameKeyBits_ok (Y : SymOk E μ) {a b a' b' : Value} (h : sameKeyBits E a b = true) (ha : VR μ a a') (hb : VR μ b b') : Instr.sameBits 10000 a' b' = true := by
  unfold sameKeyBits at h
  split at h
  · rename_i a b
    cases ha with
    | agg _ a' hs ha =>
    cases hb with
    | agg _ b' hs2 hb =>
    simp only [Bool.and_eq_true, beq_iff_eq, List.all_eq_true] at h
    obtain ⟨h1, h2⟩ := h
    simp only [Instr.sameBits, Bool.and_eq_true, beq_iff_eq, List.all_eq_true]
    refine ⟨by omega, ?_⟩
    intro x hx
    obtain ⟨x', y'⟩ := x
    obtain ⟨i, hi⟩ := List.mem_iff_getElem?.1 hx
    obtain ⟨hi1, hi2⟩ := List.getElem?_zip_eq_some.1 hi
    simp only [Array.getElem?_toList] at hi1 hi2
    have l1 : i < a'.size := (Array.getElem?_eq_some_iff.1 hi1).1
    have l2 : i < b'.size := (Array.getElem?_eq_some_iff.1 hi2).1
    have e1 : a[i]? = some a[i] := Array.getElem?_eq_getElem (by omega)
    have e2 : b[i]? = some b[i] := Array.getElem?_eq_getElem (by omega)
    refine flatSameS Y (h2 (a[i], b[i]) ?_) (ha i _ _ e1 hi1) (hb i _ _ e2 hi2)
    exact List.mem_iff_getElem?.2 ⟨i, List.getElem?_zip_eq_some.2 ⟨by simpa using e1, by simpa using e2⟩⟩
  · exact flatSameS Y h ha hb

theorem mapUpdate0_ok (Y : SymOk E μ) (hr : HR B W0 μ H w) {t : TypeId} {x k v x' k' v' : Value} (h : mapUpdateA0 E H t x k v = some H') (hx : VR μ x x') (hk : VR μ k k') (hv : VR μ v v') :
    ∃ w', (Instr.mapUpdate t x' k' v').run P w = .ok () w' ∧ HR B W0 μ H' w' := by
  unfold mapUpdateA0 at h
  split at h
  case h_2 => cases h
  case h_1 kt et r hd =>
  split at h
  case h_2 => cases h
  case h_1 es clock hg =>
  split at h
  case isFalse => cases h
  case isTrue hc =>
  cases hx with
  | map _ p hp =>
  obtain ⟨q, es', a, b, c⟩ := hr.mapAt hg
  rw [a] at hp; cases hp
  have hck := checkKey_ok T (w := w) 20 10000 kt k k' false (by omega) hc hk
  have el : es.length = es'.size := by have := c.1; simpa using this
  split at h
  · rename_i i v0 hf
    obtain ⟨r', f1, f2⟩ := find_ok T (w := w) Y hk hf hc c
    cases r' with
    | none => exact f2.elim
    | some z =>
    obtain ⟨i', vv⟩ := z
    obtain ⟨e1, _⟩ := f2
    simp only at e1
    subst e1
    split at h
    case h_2 => cases h
    case h_1 e he =>
    split at h
    case isFalse => cases h
    case isTrue hsb =>
    cases h
    have hi : i < es.length := (List.getElem?_eq_some_iff.1 he).1
    have he' : es'[i]? = some es'[i] := Array.getElem?_eq_getElem (by omega)
    have hme := c.2 i e es'[i] he (by simpa using he')
    have hsame := sameKeyBits_ok Y hsb hme.1 hk
    obtain ⟨w', s1, s2⟩ := setMap_ok (P := P) hr hg a (es2 := es.set i { e with key := k, val := v }) (es2' := es'.modify i fun e => { e with key := k', val := v' }) (clock2 := clock) (by simp [el]) (by
      intro j x y hx hy
      rw [List.getElem?_set] at hx
      rw [Array.getElem?_modify] at hy
      by_cases hij : i = j
      · subst hij
        rw [if_pos rfl, if_pos hi] at hx
        simp only [if_pos, he', Option.map_some, Option.some.injEq] at hx hy
        subst hx; subst hy
        exact ⟨hk, hv, hme.2.2⟩
      · rw [if_neg hij] at hx hy
        exact c.2 j x y hx (by simpa using hy))
    refine ⟨w', ?_, s2⟩
    simp only [Instr.mapUpdate, Sem.run_bind, T.run_und hd, Result.andThen_ok, getObj, Sem.run, b, hck, f1]
    simp only [he', Option.map_some, Option.getD_some, Instr.keyThatStays, hsame, if_true, Sem.run_bind, Sem.run_pure, Result.andThen_ok]
    exact s1
  · rename_i hf
    cases h
    obtain ⟨r', f1, f2⟩ := find_ok T (w := w) Y hk hf hc c
    cases r' with
    | some z => exact f2.elim
    | none =>
    obtain ⟨w', s1, s2⟩ := setMap_ok (P := P) hr hg a (es2 := es ++ [{ key := k, val := v, born := clock }]) (es2' := es'.push { key := k', val := v', born := clock }) (clock2 := clock + 1) (by simp [el]) (by
      intro j x y hx hy
      rw [List.getElem?_append] at hx
      rw [Array.getElem?_push] at hy
      by_cases hj : j < es.length
      · rw [if_pos hj] at hx
        rw [if_neg (by omega)] at hy
        exact c.2 j x y hx (by simpa using hy)
      · rw [if_neg hj] at hx
        have hj2 : j = es.length := by
          have := (List.getElem?_eq_some_iff.1 hx).1
          simp at this; omega
        subst hj2
        rw [if_pos el] at hy
        simp at hx hy
        subst hx; subst hy
        exact ⟨hk, hv, rfl⟩)
    refine ⟨w', ?_, s2⟩
    simp only [Instr.mapUpdate, Sem.run_bind, T.run_und hd, Result.andThen_ok, getObj, Sem.run, b, hck, f1]
    exact s1
  · cases h

theorem delete0_ok (Y : SymOk E μ) (hr : HR B W0 μ H w) {t : TypeId} {x k x' k' : Value} {ts : Array TypeId} {ty : TypeId} (h : deleteA0 E H t x k = some H') (hx : VR μ x x') (hk : VR μ k k') (h0 : ts[0]? = some t) :
    SOk P B W0 μ w (Builtin.delete_ ts ty #[x', k']) undefV H' := by
  have hu : VR μ undefV undefV := .tuple _ _ rfl (by intro i v v' hv; simp at hv)
  unfold deleteA0 at h
  split at h
  · rename_i kt et hd
    split at h
    case isFalse => cases h
    case isTrue hc =>
      cases h; cases hx
      have hck := checkKey_ok T (w := w) 20 10000 kt k k' true (by omega) hc hk
      refine ⟨_, w, μ, ?_, μ.le_refl, hr, hu⟩
      simp only [Builtin.delete_, h0, List.getElem?_toArray, List.getElem?_cons_zero, List.getElem?_cons_succ, Sem.run_bind, T.run_und hd, Result.andThen_ok, hck]
      rfl
  · rename_i kt et r hd
    split at h
    case h_2 => cases h
    case h_1 es clock hg =>
    split at h
    case isFalse => cases h
    case isTrue hc =>
    cases hx with
    | map _ p hp =>
    obtain ⟨q, es', a, b, c⟩ := hr.mapAt hg
    rw [a] at hp; cases hp
    have hck := checkKey_ok T (w := w) 20 10000 kt k k' es'.isEmpty (by omega) hc hk
    have el : es.length = es'.size := by have := c.1; simpa using this
    split at h
    · rename_i i v0 hf
      cases h
      obtain ⟨r', f1, f2⟩ := find_ok T (w := w) Y hk hf hc c
      cases r' with
      | none => exact f2.elim
      | some z =>
      obtain ⟨i', vv⟩ := z
      obtain ⟨e1, _⟩ := f2
      simp only at e1
      subst e1
      obtain ⟨w', s1, s2⟩ := setMap_ok (P := P) hr hg a (es2 := es.eraseIdx i) (es2' := es'.eraseIdxIfInBounds i) (clock2 := clock) (by
          have : (es'.eraseIdxIfInBounds i).toList = es'.toList.eraseIdx i := by simp
          rw [← Array.length_toList, this, List.length_eraseIdx, List.length_eraseIdx]; simp [el]) (by
        intro j x y hx hy
        have e2 : (es'.eraseIdxIfInBounds i).toList = es'.toList.eraseIdx i := by simp
        rw [← Array.getElem?_toList, e2, List.getElem?_eraseIdx] at hy
        rw [List.getElem?_eraseIdx] at hx
        split at hx
        · rename_i hj
          rw [if_pos hj] at hy
          exact c.2 j x y hx hy
        · rename_i hj
          rw [if_neg hj] at hy
          exact c.2 (j + 1) x y hx hy)
      refine ⟨_, w', μ, ?_, μ.le_refl, s2, hu⟩
      simp only [Builtin.delete_, h0, List.getElem?_toArray, List.getElem?_cons_zero, List.getElem?_cons_succ, Sem.run_bind, T.run_und hd, Result.andThen_ok, getObj, Sem.run, b, hck, f1, s1]
      rfl
    · rename_i hf
      cases h
      obtain ⟨r', f1, f2⟩ := find_ok T (w := w) Y hk hf hc c
      cases r' with
      | some z => exact f2.elim
      | none =>
      have hset : (setObj p.blk (.map es' clock)).run P w = .ok () w := by
        obtain ⟨hlt, hx⟩ := Array.getElem?_eq_some_iff.1 b
        have : w.heap.setIfInBounds p.blk (.map es' clock) = w.heap := by
          apply Array.ext_getElem?
          intro i
          rw [Array.getElem?_setIfInBounds]
          by_cases h1 : p.blk = i
          · subst h1; simp [hlt, hx]
          · simp [h1]
        simp only [setObj, Sem.run, b, this]
      refine ⟨_, w, μ, ?_, μ.le_refl, hr, hu⟩
      simp only [Builtin.delete_, h0, List.getElem?_toArray, List.getElem?_cons_zero, List.getElem?_cons_succ, Sem.run_bind, T.run_und hd, Result.andThen_ok, getObj, Sem.run, b, hck, f1, hset]
      rfl
    · cases h
  · cases h
end
end Go.Vsx
