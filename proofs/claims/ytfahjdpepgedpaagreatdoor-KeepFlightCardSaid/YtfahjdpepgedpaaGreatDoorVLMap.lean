/- The operations are right: maps whose entries lie in any order. -/
import Derived.Test.YtfahjdpepgedpaaGreatDoorVOps8
set_option linter.all false
namespace Go.Vsx
open Go Go.RowKit

section
variable {P : Program} {E : Env} {B : Nat} {W0 w : World} {μ : Mu} {H H' : Heap}

noncomputable def findP (E : Env) (kt : TypeId) (k : Value) : List (Value × Value) → Option (Option Value)
  | [] => some none
  | e :: es => match keyEqA E kt k e.1, findP E kt k es with
    | some true, some none => some (some e.2)
    | some false, some r => some r
    | _, _ => none
theorem findL_eq {kt : TypeId} {k : Value} : ∀ es : List MapEntry, findL E kt k es = findP E kt k (es.map estrip)
  | [] => rfl
  | e :: es => by
    simp only [findL, List.map_cons, findP, findL_eq es]
    rfl
theorem findP_perm {kt : TypeId} {k : Value} {a b : List (Value × Value)} (h : a.Perm b) : ∀ r, findP E kt k a = some r → findP E kt k b = some r := by
  induction h with
  | nil => exact fun r h => h
  | cons x p ih =>
    rename_i l1 l2
    intro r hr
    simp only [findP] at hr ⊢
    cases hq : findP E kt k l1 with
    | none =>
      rw [hq] at hr
      generalize keyEqA E kt k x.1 = q at hr
      rcases q with _ | b
      · cases hr
      · cases b <;> cases hr
    | some r0 =>
      rw [hq] at hr
      rw [ih r0 hq]; exact hr
  | swap x y l =>
    intro r hr
    simp only [findP] at hr ⊢
    generalize keyEqA E kt k x.1 = q1 at hr ⊢
    generalize keyEqA E kt k y.1 = q2 at hr ⊢
    generalize findP E kt k l = q3 at hr ⊢
    rcases q1 with _ | _ | _ <;> rcases q2 with _ | _ | _ <;> rcases q3 with _ | _ | v <;> first | (cases hr; done) | exact hr
  | trans _ _ ih1 ih2 => exact fun r h => ih2 r (ih1 r h)

theorem findL_miss {kt : TypeId} {k : Value} : ∀ (es : List MapEntry) (n : Nat), findL E kt k es = some none → findA E kt k es n = some none ∧ (∀ x, updL E kt k x es = es) ∧ delL E kt k es = es
  | [], n, _ => ⟨rfl, fun _ => rfl, rfl⟩
  | e :: es, n, h => by
    simp only [findL] at h
    cases hq : keyEqA E kt k e.key with
    | none => rw [hq] at h; cases h
    | some b =>
      rw [hq] at h
      cases hf : findL E kt k es with
      | none => rw [hf] at h; cases b <;> cases h
      | some r =>
        rw [hf] at h
        cases b with
        | true => cases r <;> cases h
        | false =>
          simp only [Option.some.injEq] at h
          subst h
          obtain ⟨a1, a2, a3⟩ := findL_miss es (n + 1) hf
          refine ⟨by simp only [findA, hq]; exact a1, fun x => ?_, ?_⟩
          · have := a2 x
            unfold updL at this ⊢
            rw [List.map_cons, hq, this]
          · unfold delL at a3 ⊢
            rw [List.filter_cons, hq]
            simp only [if_true]
            rw [a3]
theorem findL_hit {kt : TypeId} {k : Value} : ∀ (es : List MapEntry) (n : Nat) (v : Value), findL E kt k es = some (some v) →
    ∃ i e, findA E kt k es n = some (some (n + i, v)) ∧ es[i]? = some e ∧ keyEqA E kt k e.key = some true ∧ (∀ x, updL E kt k x es = es.set i { e with key := k, val := x }) ∧ delL E kt k es = es.eraseIdx i
  | [], n, v, h => by cases h
  | e :: es, n, v, h => by
    simp only [findL] at h
    cases hq : keyEqA E kt k e.key with
    | none => rw [hq] at h; cases h
    | some b =>
      rw [hq] at h
      cases hf : findL E kt k es with
      | none => rw [hf] at h; cases b <;> cases h
      | some r =>
        rw [hf] at h
        cases b with
        | true =>
          cases r with
          | some _ => cases h
          | none =>
            simp only [Option.some.injEq] at h
            subst h
            obtain ⟨a1, a2, a3⟩ := findL_miss es (n + 1) hf
            refine ⟨0, e, by simp only [findA, hq, Nat.add_zero], rfl, hq, fun x => ?_, ?_⟩
            · have := a2 x
              unfold updL at this ⊢
              rw [List.map_cons, hq, this]; rfl
            · unfold delL at a3 ⊢
              rw [List.filter_cons, hq]
              simp only [Bool.false_eq_true, if_false]
              rw [a3]; rfl
        | false =>
          simp only [Option.some.injEq] at h
          subst h
          obtain ⟨i, e1, b1, b2, b3, b4, b5⟩ := findL_hit es (n + 1) v hf
          refine ⟨i + 1, e1, ?_, by simpa using b2, b3, fun x => ?_, ?_⟩
          · simp only [findA, hq]; rw [b1]; congr 3; omega
          · have := b4 x
            unfold updL at this ⊢
            rw [List.map_cons, hq, this]; rfl
          · unfold delL at b5 ⊢
            rw [List.filter_cons, hq]
            simp only [if_true]
            rw [b5]; rfl

theorem updL_strip {kt : TypeId} {k v : Value} (es : List MapEntry) : (updL E kt k v es).map estrip = (es.map estrip).map fun x => match keyEqA E kt k x.1 with | some true => (k, v) | _ => x := by
  unfold updL
  rw [List.map_map, List.map_map]
  congr 1
  funext e
  simp only [Function.comp, estrip]
  generalize keyEqA E kt k e.key = q
  rcases q with _ | _ | _ <;> rfl
theorem delL_strip {kt : TypeId} {k : Value} (es : List MapEntry) : (delL E kt k es).map estrip = (es.map estrip).filter fun x => match keyEqA E kt k x.1 with | some true => false | _ => true := by
  unfold delL
  rw [List.filter_map]
  rfl

theorem HR.strict (hr : HR B W0 μ H w) {r : Nat} {es : List MapEntry} (hg : H.get r = some (.lmap es)) : ∃ es1 clock, (es1.map estrip).Perm (es.map estrip) ∧ HR B W0 μ (H.put r (.map es1 clock)) w := by
  obtain ⟨q, a, ⟨es1, cl, hp, es', b, c, d⟩, _⟩ := hr.obj r _ hg
  exact ⟨es1, cl, hp, hr.upd hg a rfl rfl ⟨rfl, rfl, rfl, rfl⟩ (fun _ _ => rfl) ⟨es', b, c, d⟩⟩
theorem HR.toLoose {Hs : Heap} (hr : HR B W0 μ Hs w) {r : Nat} {es es1 : List MapEntry} {clock : Nat} (hg : Hs.get r = some (.map es1 clock)) (hp : (es1.map estrip).Perm (es.map estrip)) (he : ∀ v, H'.get v = (Hs.put r (.lmap es)).get v) (hn : H'.next = Hs.next) : HR B W0 μ H' w := by
  obtain ⟨q, a, ⟨es', b, c, d⟩, _⟩ := hr.obj r _ hg
  exact HR.congr (hr.upd hg a rfl rfl ⟨rfl, rfl, rfl, rfl⟩ (fun _ _ => rfl) (o' := .lmap es) ⟨es1, clock, hp, es', b, c, d⟩) he hn

theorem lmapAt_some {x : Value} {r : Nat} {es : List MapEntry} (h : lmapAt H x = some (r, es)) : x = .map (some r) ∧ H.get r = some (.lmap es) := by
  unfold lmapAt at h
  split at h
  · split at h
    · rename_i hg; cases h; exact ⟨rfl, hg⟩
    · cases h
  · cases h

variable (T : TyOk P E)
include T
theorem lookup_ok (Y : SymOk E μ) (hr : HR B W0 μ H w) {t : TypeId} {x k x' k' v : Value} {ok : Bool} (h : lookupA E H t x k ok = some v) (hx : VR μ x x') (hk : VR μ k k') : RdOk P μ w (Instr.lookup t x' k' ok) v := by
  unfold lookupA at h
  split at h
  · exact lookup0_ok T Y hr h hx hk
  · rename_i r es hl
    obtain ⟨rfl, hg⟩ := lmapAt_some hl
    obtain ⟨es1, cl, hp, hs⟩ := hr.strict hg
    split at h
    case h_2 => cases h
    case h_1 kt et hd =>
    refine lookup0_ok T Y hs ?_ hx hk
    have gm : getMap (H.put r (.map es1 cl)) (.map (some r)) = some es1 := by simp [getMap, Heap.get_put]
    unfold lookupA0
    rw [hd]
    simp only [gm, Option.bind_eq_bind, Option.bind_some]
    split at h
    · rename_i hc hf
      cases h
      rw [findL_eq] at hf
      have := findP_perm hp.symm _ hf
      rw [← findL_eq] at this
      obtain ⟨i, e, f1, _⟩ := findL_hit es1 0 _ this
      rw [if_pos hc, f1]
    · rename_i hc hf
      rw [findL_eq] at hf
      have := findP_perm hp.symm _ hf
      rw [← findL_eq] at this
      obtain ⟨f1, _⟩ := findL_miss es1 0 this
      rw [if_pos hc, f1]; exact h
    · cases h

theorem mapUpdate_ok (Y : SymOk E μ) (hr : HR B W0 μ H w) {t : TypeId} {x k v x' k' v' : Value} (h : mapUpdateA E H t x k v = some H') (hx : VR μ x x') (hk : VR μ k k') (hv : VR μ v v') :
    ∃ w', (Instr.mapUpdate t x' k' v').run P w = .ok () w' ∧ HR B W0 μ H' w' := by
  unfold mapUpdateA at h
  split at h
  · exact mapUpdate0_ok T Y hr h hx hk hv
  · rename_i r es hl
    obtain ⟨rfl, hg⟩ := lmapAt_some hl
    obtain ⟨es1, cl, hp, hs⟩ := hr.strict hg
    split at h
    case h_2 => cases h
    case h_1 kt et hd =>
    have gg : (H.put r (.map es1 cl)).get r = some (.map es1 cl) := by rw [Heap.get_put, if_pos rfl]
    split at h
    · rename_i hc hf
      split at h
      case isFalse => cases h
      case isTrue hsm =>
      cases h
      rw [findL_eq] at hf
      have hf1 := findP_perm hp.symm _ hf
      rw [← findL_eq] at hf1
      obtain ⟨i, e, f1, f2, f3, f4, f5⟩ := findL_hit es1 0 _ hf1
      rw [Nat.zero_add] at f1
      have hsk : sameKeyBits E e.key k = true := by
        have hm : estrip e ∈ es.map estrip := hp.mem_iff.1 (List.mem_map.2 ⟨e, List.mem_of_getElem? f2, rfl⟩)
        obtain ⟨e2, m1, m2⟩ := List.mem_map.1 hm
        have ek : e2.key = e.key := congrArg Prod.fst m2
        have := List.all_eq_true.1 hsm e2 m1
        rw [ek, f3] at this
        exact this
      obtain ⟨w', r1, r2⟩ := mapUpdate0_ok T Y hs (t := t) (x := .map (some r)) (k := k) (v := v) (H' := (H.put r (.map es1 cl)).put r (.map (es1.set i { e with key := k, val := v }) cl)) (by
        unfold mapUpdateA0
        rw [hd]
        simp only [gg]
        rw [if_pos hc, f1]
        simp only [f2]
        rw [if_pos hsk]) hx hk hv
      refine ⟨w', r1, r2.toLoose (es1 := es1.set i { e with key := k, val := v }) (es := updL E kt k v es) (clock := cl) (r := r) (by rw [Heap.get_put, if_pos rfl]) ?_ (fun u => ?_) rfl⟩
      · rw [← f4 v, updL_strip, updL_strip]; exact hp.map _
      · simp only [Heap.get_put]; split <;> rfl
    · rename_i hc hf
      cases h
      rw [findL_eq] at hf
      have hf1 := findP_perm hp.symm _ hf
      rw [← findL_eq] at hf1
      obtain ⟨f1, _⟩ := findL_miss es1 0 hf1
      obtain ⟨w', r1, r2⟩ := mapUpdate0_ok T Y hs (t := t) (x := .map (some r)) (k := k) (v := v) (H' := (H.put r (.map es1 cl)).put r (.map (es1 ++ [{ key := k, val := v, born := cl }]) (cl + 1))) (by
        unfold mapUpdateA0
        rw [hd]
        simp only [gg]
        rw [if_pos hc, f1]) hx hk hv
      refine ⟨w', r1, r2.toLoose (es1 := es1 ++ [{ key := k, val := v, born := cl }]) (es := es ++ [{ key := k, val := v, born := 0 }]) (clock := cl + 1) (r := r) (by rw [Heap.get_put, if_pos rfl]) ?_ (fun u => ?_) rfl⟩
      · rw [List.map_append, List.map_append]; exact hp.append_right _
      · simp only [Heap.get_put]; split <;> rfl
    · cases h

theorem delete_ok (Y : SymOk E μ) (hr : HR B W0 μ H w) {t : TypeId} {x k x' k' : Value} {ts : Array TypeId} {ty : TypeId} (h : deleteA E H t x k = some H') (hx : VR μ x x') (hk : VR μ k k') (h0 : ts[0]? = some t) :
    SOk P B W0 μ w (Builtin.delete_ ts ty #[x', k']) undefV H' := by
  unfold deleteA at h
  split at h
  · exact delete0_ok T Y hr h hx hk h0
  · rename_i r es hl
    obtain ⟨rfl, hg⟩ := lmapAt_some hl
    obtain ⟨es1, cl, hp, hs⟩ := hr.strict hg
    split at h
    case h_2 => cases h
    case h_1 kt et hd =>
    have gg : (H.put r (.map es1 cl)).get r = some (.map es1 cl) := by rw [Heap.get_put, if_pos rfl]
    split at h
    · rename_i hc hf
      cases h
      rw [findL_eq] at hf
      have hf1 := findP_perm hp.symm _ hf
      rw [← findL_eq] at hf1
      obtain ⟨i, e, f1, f2, f3, f4, f5⟩ := findL_hit es1 0 _ hf1
      rw [Nat.zero_add] at f1
      obtain ⟨v', w', μ', r1, r2, r3, r4⟩ := delete0_ok T Y hs (t := t) (x := .map (some r)) (k := k) (H' := (H.put r (.map es1 cl)).put r (.map (es1.eraseIdx i) cl)) (by
        unfold deleteA0
        rw [hd]
        simp only [gg]
        rw [if_pos hc, f1]) hx hk h0
      refine ⟨v', w', μ', r1, r2, r3.toLoose (es1 := es1.eraseIdx i) (es := delL E kt k es) (clock := cl) (r := r) (by rw [Heap.get_put, if_pos rfl]) ?_ (fun u => ?_) rfl, r4⟩
      · rw [← f5, delL_strip, delL_strip]; exact hp.filter _
      · simp only [Heap.get_put]; split <;> rfl
    · rename_i hc hf
      cases h
      rw [findL_eq] at hf
      have hf1 := findP_perm hp.symm _ hf
      rw [← findL_eq] at hf1
      obtain ⟨f1, _⟩ := findL_miss es1 0 hf1
      obtain ⟨v', w', μ', r1, r2, r3, r4⟩ := delete0_ok T Y hs (t := t) (x := .map (some r)) (k := k) (H' := H.put r (.map es1 cl)) (by
        unfold deleteA0
        rw [hd]
        simp only [gg]
        rw [if_pos hc, f1]) hx hk h0
      refine ⟨v', w', μ', r1, r2, r3.toLoose (es1 := es1) (es := es) (clock := cl) (r := r) gg hp (fun u => ?_) rfl, r4⟩
      simp only [Heap.get_put]
      split
      · rename_i e; subst e; exact hg
      · rfl
    · cases h
end
end Go.Vsx
