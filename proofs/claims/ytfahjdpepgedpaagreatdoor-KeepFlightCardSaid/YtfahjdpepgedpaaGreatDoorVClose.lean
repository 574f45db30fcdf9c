/- From the row's readings of the arguments to what the nodes ask of them; and back: nothing of them has turned. -/
import Derived.Test.YtfahjdpepgedpaaGreatDoorVGlue
import Derived.ChangeStays
import Derived.ChangeOld
import Derived.ChangeArms
import Derived.OpenShut
import Derived.Deep.Slices
import Derived.Deep.Fields
set_option linter.all false
namespace Go.Vsx
open Go Go.RowKit Go.ChangeShapes Go.Deep

/-- The cells of a type that is flat. -/
def flatK (P : Program) : Nat → TypeId → Option (List TypeDesc)
  | 0, _ => none
  | d + 1, t => match P.underlying t with
    | some (.int k) => some [.int k]
    | some .bool => some [.bool]
    | some .string => some [.string]
    | some (.struct fs) => flatL (fs.toList.map fun f => flatK P d f.type)
    | _ => none
where
  flatL : List (Option (List TypeDesc)) → Option (List TypeDesc)
    | [] => some []
    | some a :: r => match flatL r with
      | some b => some (a ++ b)
      | none => none
    | none :: _ => none

def TypedK (v : Value) : TypeDesc → Prop
  | .int k => ∃ x, v = .int k x ∧ (Lit.int k x).wf = true
  | .bool => ∃ b, v = .bool b
  | .string => ∃ s : ByteArray, v = .string s ∧ s.size ≤ maxLen
  | _ => False

def TypedL (cs : List Value) (ks : List TypeDesc) : Prop := cs.length = ks.length ∧ ∀ (t : Nat) k, ks[t]? = some k → ∃ v, cs[t]? = some v ∧ TypedK v k
theorem TypedL.append {a b : List Value} {ka kb : List TypeDesc} (h : TypedL a ka) (k : TypedL b kb) : TypedL (a ++ b) (ka ++ kb) := by
  refine ⟨by simp [h.1, k.1], fun t d hd => ?_⟩
  rw [List.getElem?_append] at hd
  split at hd
  · rename_i hlt
    obtain ⟨v, x, y⟩ := h.2 t d hd
    exact ⟨v, by rw [List.getElem?_append_left (by rw [h.1]; exact hlt)]; exact x, y⟩
  · rename_i hlt
    obtain ⟨v, x, y⟩ := k.2 _ d hd
    exact ⟨v, by rw [List.getElem?_append_right (by rw [h.1]; omega), h.1]; exact x, y⟩

theorem typed_one {v : Value} {k : TypeDesc} (h : TypedK v k) : TypedL [v] [k] := by
  refine ⟨rfl, fun t d hd => ?_⟩
  cases t with
  | zero => simp at hd; subst hd; exact ⟨v, rfl, h⟩
  | succ t => simp at hd

section
variable {H : Type} {enc : TypeId × Value → H} {P : Program} {w : World} {base : Nat} {spare : Nat → Bool} {held : Bool}

theorem typed_fields {S : Field → Nat} {cs : List Value} {G : Field → Option (List TypeDesc)} : ∀ (fs : List Field) (o : Nat) (ks : List TypeDesc),
    flatK.flatL (fs.map G) = some ks → (∀ (j : Nat) f, fs[j]? = some f → f.offset = o + ((fs.take j).map S).sum) → (o + (fs.map S).sum ≤ cs.length) →
    (∀ f ∈ fs, ∀ ks, G f = some ks → TypedL ((cs.drop f.offset).take (S f)) ks) → TypedL ((cs.drop o).take ((fs.map S).sum)) ks
  | [], o, ks, h, _, _, _ => by
    simp only [List.map_nil, flatK.flatL, Option.some.injEq] at h
    subst h
    simp only [List.map_nil, List.sum_nil, List.take_zero]
    exact ⟨rfl, fun t k hk => by simp at hk⟩
  | f :: fs, o, ks, h, ho, hl, ht => by
    simp only [List.map_cons] at h
    cases hg : G f with
    | none => rw [hg] at h; simp [flatK.flatL] at h
    | some a =>
      rw [hg] at h
      simp only [flatK.flatL] at h
      split at h
      case h_2 => cases h
      case h_1 b hb =>
      cases h
      have h0 : f.offset = o := by simpa using ho 0 f rfl
      have h1 := ht f List.mem_cons_self a hg
      rw [h0] at h1
      simp only [List.map_cons, List.sum_cons] at hl ⊢
      have h2 := typed_fields (S := S) (cs := cs) fs (o + S f) b hb (fun j g hj => by
        have := ho (j + 1) g (by simpa using hj)
        simp only [List.take_succ_cons, List.map_cons, List.sum_cons] at this
        omega) (by omega) (fun g hg' ks hk => ht g (List.mem_cons_of_mem _ hg') ks hk)
      have := h1.append h2
      have e : (cs.drop o).take (S f + (fs.map S).sum) = (cs.drop o).take (S f) ++ (cs.drop (o + S f)).take ((fs.map S).sum) := by
        rw [List.take_add, List.drop_drop]
      rw [e]; exact this

theorem typed_of_trod {T : TypeId → Prop} (K : Kids P T) : ∀ (d : Nat) (t : TypeId) (ks : List TypeDesc), flatK P d t = some ks → T t → ∀ (fuel : Nat) (cs : List Value) (x : DataW H × List MemPlace),
    DataW.trod enc P w base spare held fuel t cs = some x → TypedL cs ks
  | 0, t, ks, h => by simp [flatK] at h
  | d + 1, t, ks, h => by
    intro hT fuel cs x hx
    simp only [flatK] at h
    split at h
    · rename_i k hk
      cases h
      obtain ⟨n, rfl, _, hw⟩ := DataW.trod_int hk hx
      exact typed_one ⟨n, rfl, hw⟩
    · rename_i hk
      cases h
      obtain ⟨b, rfl, _⟩ := DataW.trod_bool hk hx
      exact typed_one ⟨b, rfl⟩
    · rename_i hk
      cases h
      obtain ⟨s, rfl, _, hw⟩ := DataW.trod_string hk hx
      exact typed_one ⟨s, rfl, hw⟩
    · rename_i fs hk
      obtain ⟨xs, n, rfl, _, hl, hs, hf⟩ := DataW.trod_struct hk hx
      obtain ⟨k1, k2, k3⟩ := K.struct hT hk
      have := typed_fields (S := fun f => P.cellsOf f.type) (cs := cs) (G := fun f => flatK P d f.type) fs.toList 0 ks h (fun j f hj => by rw [k3 j f hj]; simp) (by rw [hl, k2]; simp) (fun f hm ks' hk' => by
        obtain ⟨i, hi⟩ := List.getElem?_of_mem hm
        have hx' := hf i f (by simpa using hi)
        have hlt : i < xs.length := by
          have := (List.getElem?_eq_some_iff.1 hi).1
          simp at this; omega
        rw [List.getElem?_eq_getElem hlt] at hx'
        exact typed_of_trod K d f.type ks' hk' (k1 f hm) n _ _ hx')
      rw [List.drop_zero, ← k2, ← hl, List.take_length] at this
      exact this
    · cases h

/-- A slice with flat elements among the arguments. -/
theorem slc_of_trod {T : TypeId → Prop} (K : Kids P T) {t e : TypeId} {d ec : Nat} {ks : List TypeDesc} (ht : P.underlying t = some (.slice e)) (hf : flatK P d e = some ks) (hT : T e) (hec : P.cellsOf e = ec) (hpos : 0 < ec) {a : Option Addr} {n c : Nat} {D : DataW H} {ps : List MemPlace}
    (h : DataW.Trod enc P w 0 (fun _ => true) held t (.slice a n c) D ps) : ∃ V : Nat → List Value, SlcOk w a n c ec V ∧ n ≤ maxLen ∧ ∀ i, i < n → TypedL (V i) ks := by
  obtain ⟨fuel, hx⟩ := h
  rcases open_slice ht hx with ⟨hcs, _⟩ | ⟨a', len, cap, m, n', D', Pl, hcs, hb, hl, hm, hmm, _, hall⟩
  · simp only [Value.cells, List.cons.injEq, Value.slice.injEq, and_true] at hcs
    obtain ⟨rfl, rfl, rfl⟩ := hcs
    exact ⟨fun _ => [], ⟨Nat.le_refl _, .inl rfl⟩, by simp, fun i hi => by omega⟩
  · simp only [Value.cells, List.cons.injEq, Value.slice.injEq, and_true] at hcs
    obtain ⟨rfl, rfl, rfl⟩ := hcs
    simp only [if_true] at hmm
    subst hmm
    rw [hec] at hall
    have key : ∀ i, i < n → ∃ cs', w.cells? 0 (a'.add (i * ec)) ec = some cs' ∧ TypedL cs' ks := by
      intro i hi
      obtain ⟨cs', h1, h2⟩ := hall i (by omega)
      exact ⟨cs', h1, typed_of_trod K d e ks hf hT _ _ _ h2⟩
    refine ⟨fun i => ((w.cells? 0 (a'.add (i * ec)) ec).getD []), ⟨hl, ?_⟩, by omega, fun i hi => ?_⟩
    · rcases Nat.eq_zero_or_pos m with hc | hc
      · exact .inl hc
      right
      have hsp : a'.spot = none ∧ ∃ cs e fr, w.heap[a'.block]? = some (.cells cs e fr) := by
        obtain ⟨cs', h1, _⟩ := hall 0 hc
        obtain ⟨_, h2, h3⟩ := World.cells?_some h1
        have := h3 0 hpos
        rw [List.getElem?_eq_getElem (by omega)] at this
        simp only [Nat.zero_mul] at this
        have e0 : ((a'.add 0).add 0) = a' := by simp [Addr.add]
        rw [e0] at this
        unfold World.cell? at this
        split at this
        · rename_i c e fr hh
          split at this
          · cases this
          · rename_i hs
            exact ⟨by simpa using hs, c, e, fr, hh⟩
        · cases this
      obtain ⟨hs, cs, e', fr, hh⟩ := hsp
      obtain ⟨blk, off, sp⟩ := a'
      simp only at hs
      subst hs
      refine ⟨blk, off, rfl, cs, e', fr, hh, fun i hi t x hx => ?_⟩
      obtain ⟨cs', h1, h2⟩ := key i hi
      simp only [h1, Option.getD_some] at hx
      obtain ⟨_, k2, k3⟩ := World.cells?_some h1
      have hlt : t < ec := by rw [← k2]; exact (List.getElem?_eq_some_iff.1 hx).1
      have := k3 t hlt
      rw [hx, add_add, Addr.add_none, cell?_of_block hh] at this
      rw [← this]; congr 1; omega
    · obtain ⟨cs', h1, h2⟩ := key i hi
      simp only [h1, Option.getD_some]; exact h2

theorem trodAll_stays {w' : World} {T : TypeId → Prop} (K : Kids P T) (hsz : ∀ {t e : TypeId}, T t → P.underlying t = some (.slice e) → 0 < P.cellsOf e) {sp' : Nat → Bool} :
    ∀ {ts : List TypeId} {vs : List Value} {ds : List (DataW H)} {ps : List MemPlace}, (∀ t ∈ ts, T t) → DataW.TrodAll enc P w base (fun _ => true) true ts vs ds ps → (∀ p ∈ ps, w.sameAt w' p) → (∀ p ∈ ps, sp' p.block = true) → DataW.TrodAll enc P w' base sp' true ts vs ds ps
  | [], [], [], _, _, h, _, _ => h
  | _ :: _, _ :: _, _ :: _, _, hT, ⟨p, q, ⟨n, h1⟩, h2, e⟩, hs, hb =>
    ⟨p, q, ⟨n, DataW.trod_stays K hsz (fun h => by cases h) (hT _ List.mem_cons_self) h1 (fun x hx => hs x (by rw [e]; exact List.mem_append_left _ hx)) (fun x hx => hb x (by rw [e]; exact List.mem_append_left _ hx))⟩,
      trodAll_stays K hsz (fun t ht => hT t (List.mem_cons_of_mem _ ht)) h2 (fun x hx => hs x (by rw [e]; exact List.mem_append_right _ hx)) (fun x hx => hb x (by rw [e]; exact List.mem_append_right _ hx)), e⟩

theorem sameAt_of_below {B : Nat} {w w' : World} (h : Below B w w') {p : MemPlace} (hp : p.block < B) : w.sameAt w' p := by
  cases p with
  | cell b off =>
    have := h.block b hp
    simp only [World.sameAt, World.cell?, this]
  | map b => exact h.block b hp
end

theorem r64_of_wf {x : Int} (h : (Lit.int .i64 x).wf = true) : R64 x := by
  simp [Lit.wf, IntKind.min, IntKind.max, IntKind.signed, IntKind.bits] at h
  exact ⟨by omega, by omega⟩

/-- Numbers of the elements. -/
def numAt (V : Nat → List Value) (t i : Nat) : Int := match (V i)[t]? with
  | some (.int _ x) => x
  | _ => 0
def boolAt (V : Nat → List Value) (t i : Nat) : Bool := match (V i)[t]? with
  | some (.bool x) => x
  | _ => false
theorem numAt_r64 {V : Nat → List Value} {n t : Nat} {ks : List TypeDesc} (h : ∀ i, i < n → TypedL (V i) ks) (hk : ks[t]? = some (.int .i64)) (i : Nat) : R64 (if i < n then numAt V t i else 0) := by
  split
  · rename_i hi
    obtain ⟨v, h1, x, rfl, h2⟩ := (h i hi).2 t _ hk
    unfold numAt
    rw [h1]; exact r64_of_wf h2
  · exact ⟨by omega, by omega⟩
/-- The elements as the printed proofs tell them. -/
theorem SlcOk.as {W : World} {a : Option Addr} {n c ec : Nat} {V F : Nat → List Value} (h : SlcOk W a n c ec V) (hF : ∀ i, i < n → V i = F i) : SlcOk W a n c ec F := by
  obtain ⟨h1, h2 | ⟨blk, off, rfl, cs, e, fr, h3, h4⟩⟩ := h
  · exact ⟨h1, .inl h2⟩
  · exact ⟨h1, .inr ⟨blk, off, rfl, cs, e, fr, h3, fun i hi t x hx => h4 i hi t x (by rw [hF i hi]; exact hx)⟩⟩
theorem typed_eq {l F : List Value} {ks : List TypeDesc} (h : TypedL l ks) (hlen : F.length = ks.length) (hF : ∀ (t : Nat) v, l[t]? = some v → F[t]? = some v) : l = F := by
  refine List.ext_getElem? fun t => ?_
  cases hl : l[t]? with
  | some v => exact (hF t v hl).symm
  | none =>
    have := List.getElem?_eq_none_iff.1 hl
    exact (List.getElem?_eq_none_iff.2 (by rw [hlen, ← h.1]; exact this)).symm
theorem numAt_eq {V : Nat → List Value} {i t : Nat} {ks : List TypeDesc} {k : IntKind} (h : TypedL (V i) ks) (hk : ks[t]? = some (.int k)) : (V i)[t]? = some (.int k (numAt V t i)) := by
  obtain ⟨v, h1, x, rfl, h2⟩ := h.2 t _ hk
  unfold numAt; rw [h1]
theorem boolAt_eq {V : Nat → List Value} {i t : Nat} {ks : List TypeDesc} (h : TypedL (V i) ks) (hk : ks[t]? = some .bool) : (V i)[t]? = some (.bool (boolAt V t i)) := by
  obtain ⟨v, h1, x, rfl⟩ := h.2 t _ hk
  unfold boolAt; rw [h1]
end Go.Vsx
