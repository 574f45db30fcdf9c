/- A state taken for a weaker one: blocks under other numbers, numbers not told, rows of the arguments laid. -/
import Derived.Test.YtfahjdpepgedpaaGreatDoorVCut
import Derived.Test.YtfahjdpepgedpaaGreatDoorVSrt
set_option linter.all false
namespace Go.Vsx
open Go Go.RowKit

def nodeMu (ng : Nat) (rows : List Pl) (vals : List Value) : Mu := ⟨fun v => if v < ng then none else rows[v - ng]?, atomsOf vals, fun _ => none⟩
def lawG (ng : Nat) (H0 : Heap) (W : World) (m : Mu) : GS := ⟨ng, fun B W0 => Init ng H0 B W0 ∧ W0 = W ∧ B = W.heap.size, m⟩

noncomputable section
def subB (ng : Nat) (ρ : PT Nat) (a b : Nat) : Bool :=
  match Nat.blt a ng with
  | true => Nat.beq a b
  | false => match ρ.get a with
    | some c => Nat.beq c b
    | none => false
def subO (f : Nat → Nat → Bool) (a b : Option Addr) : Bool :=
  match a, b with
  | none, none => true
  | some ⟨v, o, none⟩, some ⟨v', o', none⟩ => f v v' && Nat.beq o o'
  | some ⟨v, o, some k⟩, some ⟨v', o', some k'⟩ => f v v' && Nat.beq o o' && Nat.beq k k'
  | _, _ => false
def sameFn (f g : Fn) : Bool := decide (f = g)

def subV (f : Nat → Nat → Bool) (A : List Value) : Nat → Value → Value → Bool
  | 0 => fun _ _ => false
  | n + 1 => fun x y => match x, y with
    | .chan none, _ => true
    | .chan (some b), y => match Nat.blt b 1000 with
      | true => match y with
        | .chan (some c) => Nat.beq b c
        | _ => false
      | false => match A[b - 1000]? with
        | some u => veq 3 u y
        | none => false
    | .bool a, .bool b => a == b
    | .int j a, .int k b => j == k && a == b
    | .string a, .string b => eqBytes a b
    | .pointer a, .pointer b => subO f a b
    | .slice a l c, .slice b l' c' => subO f a b && Nat.beq l l' && Nat.beq c c'
    | .map none, .map none => true
    | .map (some a), .map (some b) => f a b
    | .func g p c, .func g' p' c' => sameFn g g' && veqL (subV f A n) p.toList p'.toList && veqL (subV f A n) c.toList c'.toList
    | .nilFunc, .nilFunc => true
    | .nilIface, .nilIface => true
    | .iface t v, .iface u w => Nat.beq t u && subV f A n v w
    | .agg a, .agg b => veqL (subV f A n) a.toList b.toList
    | .tuple a, .tuple b => veqL (subV f A n) a.toList b.toList
    | _, _ => false

def preL (f : Value → Value → Bool) : List Value → List Value → Bool
  | [], _ => true
  | x :: l, y :: l' => match f x y with
    | true => preL f l l'
    | false => false
  | _, _ => false
def subRow (f : Value → Value → Bool) (x y : Row) : Bool :=
  x.ro == y.ro && Nat.beq x.lb y.lb && Nat.beq x.elem y.elem && Nat.beq x.esz y.esz && x.opn == y.opn && x.fz == y.fz && preL f x.cs y.cs
def subEs (f : Value → Value → Bool) : List MapEntry → List MapEntry → Bool
  | [], [] => true
  | x :: l, y :: l' => f x.key y.key && f x.val y.val && Nat.beq x.born y.born && subEs f l l'
  | _, _ => false
/-- Each entry is one of the others, which is then taken away. -/
def takeE (f : Value → Value → Bool) (x : MapEntry) : List MapEntry → Option (List MapEntry)
  | [] => none
  | y :: l => match f x.key y.key && f x.val y.val with
    | true => some l
    | false => match takeE f x l with
      | some r => some (y :: r)
      | none => none
def subPerm (f : Value → Value → Bool) : List MapEntry → List MapEntry → Bool
  | [], [] => true
  | x :: l, l' => match takeE f x l' with
    | some r => subPerm f l r
    | none => false
  | _, _ => false
def subObj (f : Value → Value → Bool) (x y : AObj) : Bool :=
  match x, y with
  | .row x, .row y => subRow f x y
  | .map es c, .map es' c' => Nat.beq c c' && subEs f es es'
  | .lmap es, .map es' _ => subPerm f es es'
  | .lmap es, .lmap es' => subPerm f es es'
  | _, _ => false

/-- A state given by lists. -/
def mkSt (ng n : Nat) (tms : List (Nat × Value)) (next : Nat) (objs : List (Nat × AObj)) (roc : List (List Value)) : St := ⟨n, ptOf tms, ⟨next, ptOf (objs ++ argPairs ng roc)⟩⟩

def subSt (ng : Nat) (roc : List (List Value)) (rl : List (Nat × Nat)) (A : List Value) (n : Nat) (tms : List (Nat × Value)) (next : Nat) (objs : List (Nat × AObj)) (σ : St) : Bool :=
  let ρ := ptOf rl
  let tm := ptOf tms
  Nat.beq σ.n n && Nat.ble (ng + roc.length) next && natsApart (rl.map (·.2)) && (rl.all fun x => Nat.ble (ng + roc.length) x.1 && Nat.blt x.1 next) && (tms.all fun x => Nat.blt x.1 n) &&
  ((List.range n).all fun t => subV (subB ng ρ) A 6 (match tm.get t with | some v => v | none => undefV) (σ.rd t)) &&
  (objs.all fun x => match Nat.blt x.1 ng with
    | true => !x.2.own && (match σ.H.get x.1 with | some o => subObj (subV (subB ng ρ) A 6) x.2 o | none => false)
    | false => (match ρ.get x.1 with
      | some u => match σ.H.get u with
        | some o => subObj (subV (subB ng ρ) A 6) x.2 o
        | none => false
      | none => false))
end

theorem blt_true {a b : Nat} (h : Nat.blt a b = true) : a < b := by simpa using h
theorem blt_false {a b : Nat} (h : Nat.blt a b = false) : b ≤ a := by
  rcases Nat.lt_or_ge a b with k | k
  · rw [show Nat.blt a b = true by simpa using k] at h; cases h
  · exact k
structure SubOk (f : Nat → Nat → Bool) (A : List Value) (μ μ' : Mu) : Prop where
  pl : ∀ a b p, f a b = true → μ.pl b = some p → μ'.pl a = some p
  low : ∀ b x, b < 1000 → μ.at_ b = some x → μ'.at_ b = some x
  atm : ∀ b u y, 1000 ≤ b → A[b - 1000]? = some u → VR μ u y → μ'.at_ b = some y

theorem veqL_get {f : Value → Value → Bool} : ∀ {l l' : List Value}, veqL f l l' = true → l.length = l'.length ∧ ∀ (i : Nat) x y, l[i]? = some x → l'[i]? = some y → f x y = true
  | [], [], _ => ⟨rfl, fun i x y h => by simp at h⟩
  | [], _ :: _, h => by simp [veqL] at h
  | _ :: _, [], h => by simp [veqL] at h
  | x :: l, y :: l', h => by
    simp only [veqL] at h
    split at h
    case h_2 => cases h
    case h_1 hf =>
    obtain ⟨h1, h2⟩ := veqL_get h
    refine ⟨by simp [h1], fun i a b ha hb => ?_⟩
    cases i with
    | zero => simp at ha hb; subst ha; subst hb; exact hf
    | succ i => exact h2 i a b (by simpa using ha) (by simpa using hb)

theorem subO_some {f : Nat → Nat → Bool} {a b : Option Addr} (h : subO f a b = true) : (a = none ∧ b = none) ∨ (∃ v v' o s, f v v' = true ∧ a = some ⟨v, o, s⟩ ∧ b = some ⟨v', o, s⟩) := by
  unfold subO at h
  split at h
  · exact .inl ⟨rfl, rfl⟩
  · simp only [Bool.and_eq_true, Nat.beq_eq] at h
    obtain ⟨h1, rfl⟩ := h
    exact .inr ⟨_, _, _, _, h1, rfl, rfl⟩
  · simp only [Bool.and_eq_true, Nat.beq_eq] at h
    obtain ⟨⟨h1, rfl⟩, rfl⟩ := h
    exact .inr ⟨_, _, _, _, h1, rfl, rfl⟩
  · cases h

theorem subV_ok {f : Nat → Nat → Bool} {A : List Value} {μ μ' : Mu} (S : SubOk f A μ μ') : ∀ (n : Nat) (x y z : Value), subV f A n x y = true → VR μ y z → VR μ' x z
  | 0, x, y, z, h, _ => by simp [subV] at h
  | n + 1, x, y, z, h, hv => by
    have ih := subV_ok S n
    have arr : ∀ (a b c : Array Value), veqL (subV f A n) a.toList b.toList = true → b.size = c.size → (∀ (i : Nat) (v v' : Value), b[i]? = some v → c[i]? = some v' → VR μ v v') →
        a.size = c.size ∧ ∀ (i : Nat) (v v' : Value), a[i]? = some v → c[i]? = some v' → VR μ' v v' := by
      intro a b c h1 h2 h3
      obtain ⟨k1, k2⟩ := veqL_get h1
      simp only [Array.length_toList] at k1
      refine ⟨by omega, fun i v v' hi hi' => ?_⟩
      have hlt : i < b.size := by have := (Array.getElem?_eq_some_iff.1 hi').1; omega
      exact ih v b[i] v' (k2 i v b[i] (by simpa using hi) (by simp [hlt])) (h3 i _ _ (Array.getElem?_eq_getElem hlt) hi')
    unfold subV at h
    split at h
    · exact .any z
    · rename_i b
      split at h
      · rename_i hb
        split at h
        · rename_i c
          simp only [Nat.beq_eq] at h
          subst h
          cases hv with
          | atom _ _ hx => exact .atom _ _ (S.low _ _ (blt_true hb) hx)
        · cases h
      · rename_i hb
        split at h
        · rename_i u hu
          have := veq_sound 3 _ _ h
          subst this
          exact .atom _ _ (S.atm b _ z (blt_false hb) hu hv)
        · cases h
    · have := eq_of_beq h; subst this
      cases hv; exact .bool _
    · simp only [Bool.and_eq_true] at h
      have h1 := eq_of_beq h.1; have h2 := eq_of_beq h.2
      subst h1; subst h2
      cases hv; exact .int _ _
    · have := eqBytes_sound h; subst this
      cases hv; exact .str _
    · rcases subO_some h with ⟨rfl, rfl⟩ | ⟨v, v', o, s, hf, rfl, rfl⟩
      · cases hv; exact .ptrN
      · cases hv with
        | ptr _ _ p hp => exact .ptr _ _ p (S.pl _ _ _ hf hp)
    · simp only [Bool.and_eq_true, Nat.beq_eq] at h
      obtain ⟨⟨h, rfl⟩, rfl⟩ := h
      rcases subO_some h with ⟨rfl, rfl⟩ | ⟨v, v', o, s, hf, rfl, rfl⟩
      · cases hv; exact .slcN _ _
      · cases hv with
        | slc _ _ _ _ p hp => exact .slc _ _ _ _ p (S.pl _ _ _ hf hp)
        | slo _ _ _ _ p hp => exact .slo _ _ _ _ p (S.pl _ _ _ hf hp)
        | slcE _ _ q p hp => exact .slcE _ _ q p (S.pl _ _ _ hf hp)
        | sloE _ _ q p hp hx => exact .sloE _ _ q p (S.pl _ _ _ hf hp) hx
    · cases hv; exact .mapN
    · cases hv with
      | map _ p hp => exact .map _ p (S.pl _ _ _ h hp)
    · simp only [Bool.and_eq_true] at h
      obtain ⟨⟨h1, h2⟩, h3⟩ := h
      have := of_decide_eq_true h1
      subst this
      cases hv with
      | func _ a a' c c' ha hc k1 k2 =>
        obtain ⟨a1, a2⟩ := arr _ _ _ h2 ha k1
        obtain ⟨c1, c2⟩ := arr _ _ _ h3 hc k2
        exact .func _ _ _ _ _ a1 c1 a2 c2
    · cases hv; exact .nilF
    · cases hv; exact .nilI
    · simp only [Bool.and_eq_true, Nat.beq_eq] at h
      obtain ⟨rfl, h2⟩ := h
      cases hv with
      | iface _ _ v' hv => exact .iface _ _ _ (ih _ _ _ h2 hv)
    · cases hv with
      | agg _ a' ha k => obtain ⟨a1, a2⟩ := arr _ _ _ h ha k; exact .agg _ _ a1 a2
    · cases hv with
      | tuple _ a' ha k => obtain ⟨a1, a2⟩ := arr _ _ _ h ha k; exact .tuple _ _ a1 a2
    · cases h

theorem preL_get {f : Value → Value → Bool} : ∀ {l l' : List Value}, preL f l l' = true → l.length ≤ l'.length ∧ ∀ (i : Nat) x, l[i]? = some x → ∃ y, l'[i]? = some y ∧ f x y = true
  | [], l', _ => ⟨by simp, fun i x h => by simp at h⟩
  | _ :: _, [], h => by simp [preL] at h
  | x :: l, y :: l', h => by
    simp only [preL] at h
    split at h
    case h_2 => cases h
    case h_1 hf =>
    obtain ⟨h1, h2⟩ := preL_get h
    refine ⟨by simp; omega, fun i a ha => ?_⟩
    cases i with
    | zero => simp at ha; subst ha; exact ⟨y, rfl, hf⟩
    | succ i => obtain ⟨b, k1, k2⟩ := h2 i a (by simpa using ha); exact ⟨b, by simpa using k1, k2⟩

theorem subEs_get {f : Value → Value → Bool} : ∀ {l l' : List MapEntry}, subEs f l l' = true → l.length = l'.length ∧ ∀ (i : Nat) x y, l[i]? = some x → l'[i]? = some y → f x.key y.key = true ∧ f x.val y.val = true ∧ x.born = y.born
  | [], [], _ => ⟨rfl, fun i x y h => by simp at h⟩
  | [], _ :: _, h => by simp [subEs] at h
  | _ :: _, [], h => by simp [subEs] at h
  | x :: l, y :: l', h => by
    simp only [subEs, Bool.and_eq_true, Nat.beq_eq] at h
    obtain ⟨⟨⟨a, b⟩, c⟩, d⟩ := h
    obtain ⟨h1, h2⟩ := subEs_get d
    refine ⟨by simp [h1], fun i u v hu hv => ?_⟩
    cases i with
    | zero => simp at hu hv; subst hu; subst hv; exact ⟨a, b, c⟩
    | succ i => exact h2 i u v (by simpa using hu) (by simpa using hv)

theorem subObj_own {f : Value → Value → Bool} {x y : AObj} (h : subObj f x y = true) : x.own = y.own := by
  unfold subObj at h
  split at h
  · simp only [subRow, Bool.and_eq_true] at h
    have := eq_of_beq h.1.1.1.1.1.1
    simp [AObj.own, this]
  · rfl
  · rfl
  · rfl
  · cases h

theorem takeE_some {f : Value → Value → Bool} {x : MapEntry} : ∀ {l r : List MapEntry}, takeE f x l = some r → ∃ y, f x.key y.key = true ∧ f x.val y.val = true ∧ l.Perm (y :: r)
  | [], r, h => by cases h
  | y :: l, r, h => by
    unfold takeE at h
    split at h
    · rename_i hq
      cases h
      rw [Bool.and_eq_true] at hq
      exact ⟨y, hq.1, hq.2, List.Perm.refl _⟩
    · split at h
      · rename_i r2 hr
        cases h
        obtain ⟨z, a, b, c⟩ := takeE_some hr
        exact ⟨z, a, b, (c.cons y).trans (List.Perm.swap _ _ _)⟩
      · cases h
/-- The entries matched one with one: 'm' is the matching order of the others. -/
theorem subPerm_some {f : Value → Value → Bool} : ∀ {l l' : List MapEntry}, subPerm f l l' = true → ∃ m : List MapEntry, l'.Perm m ∧ l.length = m.length ∧ ∀ (i : Nat) x y, l[i]? = some x → m[i]? = some y → f x.key y.key = true ∧ f x.val y.val = true
  | [], [], _ => ⟨[], List.Perm.refl _, rfl, fun i x y h => by simp at h⟩
  | [], _ :: _, h => by simp [subPerm] at h
  | x :: l, l', h => by
    unfold subPerm at h
    split at h
    case h_2 => cases h
    case h_1 r hr =>
    obtain ⟨y, a, b, c⟩ := takeE_some hr
    obtain ⟨m, m1, m2, m3⟩ := subPerm_some h
    refine ⟨y :: m, c.trans (m1.cons y), by simp [m2], fun i u v hu hv => ?_⟩
    cases i with
    | zero => simp at hu hv; subst hu; subst hv; exact ⟨a, b⟩
    | succ i => exact m3 i u v (by simpa using hu) (by simpa using hv)
/-- Pairs in the order of a permutation. -/
theorem perm_pairs {α β : Type} {R : α → β → Prop} {a : List α} {b : List β} (hl : a.length = b.length) (h : ∀ (i : Nat) x y, a[i]? = some x → b[i]? = some y → R x y) {a2 : List α} (hp : a.Perm a2) : ∃ b2 : List β, b.Perm b2 ∧ a2.length = b2.length ∧ ∀ (i : Nat) x y, a2[i]? = some x → b2[i]? = some y → R x y := by
  induction hp generalizing b with
  | nil => exact ⟨b, List.Perm.refl _, hl, h⟩
  | cons x p ih =>
    cases b with
    | nil => simp at hl
    | cons y b =>
      obtain ⟨b2, q1, q2, q3⟩ := ih (by simpa using hl) (fun i u v hu hv => h (i + 1) u v (by simpa using hu) (by simpa using hv))
      refine ⟨y :: b2, q1.cons y, by simp [q2], fun i u v hu hv => ?_⟩
      cases i with
      | zero => simp at hu hv; subst hu; subst hv; exact h 0 _ _ rfl rfl
      | succ i => exact q3 i u v (by simpa using hu) (by simpa using hv)
  | swap x y l =>
    match b, hl, h with
    | u :: v :: b, hl, h =>
      refine ⟨v :: u :: b, List.Perm.swap _ _ _, by simpa using hl, fun i p q hp hq => ?_⟩
      match i, hp, hq with
      | 0, hp, hq => simp at hp hq; subst hp; subst hq; exact h 1 _ _ rfl rfl
      | 1, hp, hq => simp at hp hq; subst hp; subst hq; exact h 0 _ _ rfl rfl
      | i + 2, hp, hq => exact h (i + 2) p q (by simpa using hp) (by simpa using hq)
    | [], hl, _ => simp at hl
    | [_], hl, _ => simp at hl
  | trans _ _ ih1 ih2 =>
    obtain ⟨b2, q1, q2, q3⟩ := ih1 hl h
    obtain ⟨b3, r1, r2, r3⟩ := ih2 q2 q3
    exact ⟨b3, q1.trans r1, r2, r3⟩
theorem subPerm_ok {f : Nat → Nat → Bool} {A : List Value} {μ μ' : Mu} (S : SubOk f A μ μ') {n : Nat} {es es' es1 : List MapEntry} {p : Pl} {w : World} {clock : Nat} {e2 : Array MapEntry} (h : subPerm (subV f A n) es es' = true) (hp : (es1.map estrip).Perm (es'.map estrip))
    (a : w.heap[p.blk]? = some (.map e2 clock)) (b : es1.length = e2.size) (d : ∀ (i : Nat) e e', es1[i]? = some e → e2[i]? = some e' → ME μ e e') : OR μ' (.lmap es) p w := by
  obtain ⟨m, m1, m2, m3⟩ := subPerm_some h
  -- the matching, turned into the actual order
  obtain ⟨x2, q1, q2, q3⟩ := perm_pairs (R := fun (y : MapEntry) (x : MapEntry) => subV f A n x.key y.key = true ∧ subV f A n x.val y.val = true) (a := m) (b := es) m2.symm (fun i y x hy hx => m3 i x y hx hy) m1.symm
  have q3' : ∀ (i : Nat) y x, (es'.map estrip)[i]? = some y → x2[i]? = some x → subV f A n x.key y.1 = true ∧ subV f A n x.val y.2 = true := fun i y x hy hx => by
    rw [List.getElem?_map] at hy
    obtain ⟨z, z1, rfl⟩ := Option.map_eq_some_iff.1 hy
    exact q3 i z x z1 hx
  obtain ⟨x3, r1, r2, r3⟩ := perm_pairs (R := fun (y : Value × Value) (x : MapEntry) => subV f A n x.key y.1 = true ∧ subV f A n x.val y.2 = true) (a := es'.map estrip) (b := x2) (by simpa using q2) q3' hp.symm
  have r2' : es1.length = x3.length := by simpa using r2
  -- births of the actual ones
  refine ⟨(List.range x3.length).map fun i => match x3[i]?, es1[i]? with | some x, some y => { x with born := y.born } | some x, none => x | none, _ => ⟨undefV, undefV, 0⟩, clock, ?_, e2, a, by simp; omega, fun i e e' he he' => ?_⟩
  · have hx3 : ((List.range x3.length).map fun i => match x3[i]?, es1[i]? with | some x, some y => ({ x with born := y.born } : MapEntry) | some x, none => x | none, _ => ⟨undefV, undefV, 0⟩).map estrip = x3.map estrip := by
      apply List.ext_getElem?
      intro i
      rw [List.getElem?_map, List.getElem?_map, List.getElem?_map]
      by_cases hi : i < x3.length
      · rw [List.getElem?_range hi, List.getElem?_eq_getElem hi]
        simp only [Option.map_some]
        have hi1 : i < es1.length := by omega
        rw [List.getElem?_eq_getElem hi, List.getElem?_eq_getElem hi1]
        rfl
      · rw [List.getElem?_eq_none (by simpa using hi), List.getElem?_eq_none (by omega)]; rfl
    rw [hx3]
    exact ((q1.trans r1).map estrip).symm
  · rw [List.getElem?_map] at he
    obtain ⟨j, hj, rfl⟩ := Option.map_eq_some_iff.1 he
    have hij : i < x3.length := by have := (List.getElem?_eq_some_iff.1 hj).1; simpa using this
    rw [List.getElem?_range hij] at hj
    cases hj
    have hi1 : i < es1.length := by omega
    rw [List.getElem?_eq_getElem hij, List.getElem?_eq_getElem hi1]
    obtain ⟨c1, c2⟩ := r3 i (estrip es1[i]) x3[i] (by rw [List.getElem?_map, List.getElem?_eq_getElem hi1]; rfl) (List.getElem?_eq_getElem hij)
    obtain ⟨d1, d2, d3⟩ := d i es1[i] e' (List.getElem?_eq_getElem hi1) he'
    exact ⟨subV_ok S n _ _ _ c1 d1, subV_ok S n _ _ _ c2 d2, d3⟩

theorem subObj_ok {f : Nat → Nat → Bool} {A : List Value} {μ μ' : Mu} (S : SubOk f A μ μ') {n : Nat} {x y : AObj} {p : Pl} {w : World} (h : subObj (subV f A n) x y = true) (k : OR μ y p w) : OR μ' x p w := by
  unfold subObj at h
  split at h
  · rename_i x y
    simp only [subRow, Bool.and_eq_true, Nat.beq_eq] at h
    obtain ⟨⟨⟨⟨⟨⟨h1, h2⟩, h3⟩, h4⟩, h5⟩, h6⟩, h7⟩ := h
    have h1 := eq_of_beq h1; have h5 := eq_of_beq h5; have h6 := eq_of_beq h6
    obtain ⟨c, e, fr, a, b1, b2⟩ := k
    obtain ⟨q1, q2⟩ := preL_get h7
    refine ⟨c, e, fr, a, fun i v hv => ?_, fun hro => ?_⟩
    · obtain ⟨y', k1, k2⟩ := q2 i v hv
      obtain ⟨v', k3, k4⟩ := b1 i y' k1
      exact ⟨v', k3, subV_ok S n _ _ _ k2 k4⟩
    · obtain ⟨c1, c2, c3, c4, c5, c6⟩ := b2 (by rw [← h1]; exact hro)
      rw [h2, h3, h4, h5, h6]
      exact ⟨c1, by omega, c3, c4, c5, c6⟩
  · rename_i es c es' c'
    simp only [Bool.and_eq_true, Nat.beq_eq] at h
    obtain ⟨rfl, h2⟩ := h
    obtain ⟨q1, q2⟩ := subEs_get h2
    obtain ⟨e2, a, b, d⟩ := k
    refine ⟨e2, a, by omega, fun i e e' hi hi' => ?_⟩
    have hlt : i < es'.length := by have := (Array.getElem?_eq_some_iff.1 hi').1; omega
    obtain ⟨k1, k2, k3⟩ := q2 i e es'[i] hi (List.getElem?_eq_getElem hlt)
    obtain ⟨m1, m2, m3⟩ := d i es'[i] e' (List.getElem?_eq_getElem hlt) hi'
    exact ⟨subV_ok S n _ _ _ k1 m1, subV_ok S n _ _ _ k2 m2, k3.trans m3⟩
  · rename_i es es' c'
    obtain ⟨e2, a, b, d⟩ := k
    exact subPerm_ok S h (List.Perm.refl _) a b d
  · rename_i es es'
    obtain ⟨es1, cl, hp, e2, a, b, d⟩ := k
    exact subPerm_ok S h hp a b d
  · cases h

/-- What an expression over atoms stands for. -/
def evM (m : Mu) : Value → Option Value
  | .chan (some a) => m.at_ a
  | .int k n => some (.int k n)
  | .bool b => some (.bool b)
  | .string s => some (.string s)
  | _ => none

theorem evM_ok {m μ : Mu} (hm : m.leV μ) {u x y : Value} (h : evM m u = some x) (hv : VR μ u y) : y = x := by
  cases u <;> simp only [evM] at h <;> (try (cases h; done))
  case chan r =>
    cases r with
    | none => cases h
    | some a =>
      cases hv with
      | atom _ _ hx =>
        have := hm.2 _ _ h
        rw [hx] at this
        exact Option.some.inj this
  all_goals (cases h; cases hv; rfl)

theorem natsApart_inj {l : List (Nat × Nat)} (h : natsApart (l.map (·.2)) = true) {x y : Nat × Nat} (hx : x ∈ l) (hy : y ∈ l) (e : x.2 = y.2) : x = y := by
  induction l with
  | nil => cases hx
  | cons a l ih =>
    simp only [List.map_cons, natsApart, Bool.and_eq_true, List.all_eq_true] at h
    have ne : ∀ z ∈ l, a.2 ≠ z.2 := fun z hz k => by
      have := h.1 z.2 (List.mem_map.2 ⟨z, hz, rfl⟩)
      simp [k] at this
    rcases List.mem_cons.1 hx with h1 | h1
    · rcases List.mem_cons.1 hy with h2 | h2
      · rw [h1, h2]
      · exact absurd (h1 ▸ e) (ne y h2)
    · rcases List.mem_cons.1 hy with h2 | h2
      · exact absurd (h2 ▸ e.symm) (ne x h1)
      · exact ih h.2 h1 h2

/-- A row of the arguments: it lies in the first world. -/
def RowsHold (W : World) (m : Mu) (rows : List Pl) (roc : List (List Value)) : Prop :=
  rows.length = roc.length ∧ ∀ (j : Nat) p l, rows[j]? = some p → roc[j]? = some l → ∃ c e fr, W.heap[p.blk]? = some (.cells c e fr) ∧ ∀ (i : Nat) v, l[i]? = some v → ∃ x, c[p.off + i]? = some x ∧ VR m v x

/-- The state may be taken for a weaker one. -/
theorem Good.sub {P : Program} {ng : Nat} (hng : ng ≤ 1000) {H0 : Heap} {W : World} {m : Mu} {Q : Nat → World → Exit → Act → World → Prop} {pt : Pt} {σ : St} {rows : List Pl} {roc : List (List Value)} {vals : List Value} {rl : List (Nat × Nat)} {A : List Value}
    {n : Nat} {tms : List (Nat × Value)} {next : Nat} {objs : List (Nat × AObj)} (hs : subSt ng roc rl A n tms next objs σ = true)
    (hone : vals.all (·.oneCell') = true) (hA : ∀ (i : Nat) u, A[i]? = some u → ∃ x, evM m u = some x ∧ vals[i]? = some x) (hrow : RowsHold W (nodeMu ng rows vals) rows roc)
    (h : Good P (lawG ng H0 W (nodeMu ng rows vals)) Q pt (mkSt ng n tms next objs roc)) : Good P (lawG ng H0 W m) Q pt σ := by
  intro B W0 μ a w sr hr g
  obtain ⟨g1, ⟨gI, gW, gB⟩, g3⟩ := g
  have gW : W0 = W := gW
  have gB : B = W.heap.size := gB
  simp only [subSt, Bool.and_eq_true] at hs
  obtain ⟨⟨⟨⟨⟨⟨s1, s2⟩, s3⟩, s7⟩, s4⟩, s5⟩, s6⟩ := hs
  have s1 := Nat.eq_of_beq_eq_true s1
  have s2 := Nat.le_of_ble_eq_true s2
  rw [List.all_eq_true] at s4 s5 s6 s7
  have rng : ∀ a u, (ptOf rl).get a = some u → (a, u) ∈ rl ∧ ng + roc.length ≤ a ∧ a < next := by
    intro a u hu
    have hm := ptOf_mem _ _ _ hu
    have := s7 _ hm
    simp only [Bool.and_eq_true, Nat.ble_eq, Nat.blt_eq] at this
    exact ⟨hm, this⟩
  let μ' : Mu := ⟨fun v => if v < ng then μ.pl v else if v < ng + roc.length then rows[v - ng]? else if v < next then ((ptOf rl).get v).bind μ.pl else none,
    fun k => if k < 1000 then μ.at_ k else atomsOf vals k, μ.kp⟩
  have S : SubOk (subB ng (ptOf rl)) A μ μ' := by
    refine ⟨fun a b p hf hp => ?_, fun b x hb hx => ?_, fun b u y hb hu hy => ?_⟩
    · show (if a < ng then μ.pl a else _) = _
      unfold subB at hf
      split at hf
      · rename_i ha
        have ha : a < ng := blt_true ha
        have := Nat.eq_of_beq_eq_true hf
        subst this
        rw [if_pos ha]; exact hp
      · rename_i ha
        have ha : ¬ a < ng := by have := blt_false ha; omega
        split at hf
        · rename_i c hc
          obtain ⟨_, r1, r2⟩ := rng _ _ hc
          rw [if_neg ha, if_neg (by omega), if_pos r2]
          have := Nat.eq_of_beq_eq_true hf
          subst this
          rw [hc]; exact hp
        · cases hf
    · show (if b < 1000 then _ else _) = _
      rw [if_pos hb]; exact hx
    · show (if b < 1000 then _ else _) = _
      rw [if_neg (by omega)]
      obtain ⟨x, k1, k2⟩ := hA _ u hu
      have := evM_ok g3 k1 hy
      subst this
      unfold atomsOf
      rw [if_pos hb]; exact k2
  have hle : (nodeMu ng rows vals).leV μ' := by
    refine ⟨fun v p hp => ?_, fun k x hk => ?_⟩
    · simp only [nodeMu] at hp
      split at hp
      · cases hp
      · rename_i hv
        have hlt : v - ng < rows.length := (List.getElem?_eq_some_iff.1 hp).1
        have := hrow.1
        show (if v < ng then _ else _) = _
        rw [if_neg hv, if_pos (by omega)]; exact hp
    · have hk' := hk
      simp only [nodeMu, atomsOf] at hk
      split at hk
      · rename_i h1
        show (if k < 1000 then _ else _) = _
        rw [if_neg (by omega)]; exact hk'
      · cases hk
  have objs_get : ∀ v o, (mkSt ng n tms next objs roc).H.get v = some o →
      (∃ u o2 p, σ.H.get u = some o2 ∧ μ.pl u = some p ∧ μ'.pl v = some p ∧ o.own = o2.own ∧ OR μ' o p w ∧ (o.own = true → (v, u) ∈ rl) ∧ (o2.own = true → B ≤ p.blk) ∧ (o2.own = false → p.blk < B)) ∨
      (o.own = false ∧ ∃ p, μ'.pl v = some p ∧ OR μ' o p w ∧ p.blk < B) := by
    intro v o hv
    rcases List.mem_append.1 (ptOf_mem _ _ _ hv) with hm | hm
    · left
      have := s6 _ hm
      simp only at this
      split at this
      · rename_i hlt
        have hlt : v < ng := blt_true hlt
        simp only [Bool.and_eq_true, Bool.not_eq_true'] at this
        obtain ⟨t1, t2⟩ := this
        split at t2
        case h_2 => cases t2
        case h_1 o2 ho2 =>
        obtain ⟨p, q1, q2, q3, q4⟩ := hr.obj _ _ ho2
        refine ⟨v, o2, p, ho2, q1, ?_, subObj_own t2, subObj_ok S t2 q2, fun k => (by rw [t1] at k; cases k), q3, q4⟩
        show (if v < ng then _ else _) = _
        rw [if_pos hlt]; exact q1
      · split at this
        case h_2 => cases this
        case h_1 u hu =>
        split at this
        case h_2 => cases this
        case h_1 o2 ho2 =>
        obtain ⟨p, q1, q2, q3, q4⟩ := hr.obj _ _ ho2
        obtain ⟨r0, r1, r2⟩ := rng _ _ hu
        refine ⟨u, o2, p, ho2, q1, ?_, subObj_own this, subObj_ok S this q2, fun _ => r0, q3, q4⟩
        show (if v < ng then _ else _) = _
        rw [if_neg (by omega), if_neg (by omega), if_pos r2, hu]; exact q1
    · right
      obtain ⟨h1, h2, l, hl, rfl⟩ := argPairs_mem hm
      refine ⟨rfl, ?_⟩
      have hlen := hrow.1
      have hlt : v - ng < rows.length := by omega
      obtain ⟨c, e, fr, hh, hc⟩ := hrow.2 (v - ng) rows[v - ng] l (List.getElem?_eq_getElem hlt) hl
      have hblk : rows[v - ng].blk < B := by rw [gB]; exact (Array.getElem?_eq_some_iff.1 hh).1
      refine ⟨rows[v - ng], ?_, ⟨c, e, fr, ?_, fun i x hx => ?_, fun k => by cases k⟩, hblk⟩
      · show (if v < ng then _ else _) = _
        rw [if_neg (by omega), if_pos (by omega)]; exact List.getElem?_eq_getElem hlt
      · have := hr.below.block _ hblk
        rw [this, gW]; exact hh
      · obtain ⟨y, k1, k2⟩ := hc i x hx
        exact ⟨y, k1, k2.monoV hle⟩
  refine h B W0 μ' a w ⟨by rw [sr.size, s1]; rfl, fun t => ?_, sr.defers⟩ ?_ ⟨fun k hk => ?_, ⟨gI, gW, gB⟩, hle⟩
  · show VR μ' (match (ptOf tms).get t with | some v => v | none => undefV) _
    by_cases ht : t < n
    · exact subV_ok S _ _ _ _ (s5 t (List.mem_range.2 ht)) (sr.tmp t)
    · have : (ptOf tms).get t = none := by
        cases hg : (ptOf tms).get t with
        | none => rfl
        | some x =>
          have := s4 _ (ptOf_mem _ _ _ hg)
          have := blt_true this
          simp only at this; omega
      rw [this]
      have hsz := sr.size
      have : a.tmps.getD t undef = undef := by
        rw [Array.getD_eq_getD_getElem?, Array.getElem?_eq_none (by omega)]; rfl
      rw [this]
      exact VR.undef
  · refine { below := hr.below, base := hr.base, fresh := fun v hv => ?_, atoms := fun k x hk => ?_, obj := fun v o hv => ?_, inj := fun v v' o o' p p' a b k k' hp hp' e => ?_, kept := hr.kept, aprt := fun v o p hv ho hp => ?_ }
    · have hv : next ≤ v := hv
      show (if v < ng then _ else _) = _
      rw [if_neg (by omega), if_neg (by omega), if_neg (by omega)]
    · have hk : (if k < 1000 then μ.at_ k else atomsOf vals k) = some x := hk
      split at hk
      · exact hr.atoms _ _ hk
      · unfold atomsOf at hk
        split at hk
        · rw [List.all_eq_true] at hone
          exact hone x (List.mem_of_getElem? hk)
        · cases hk
    · rcases objs_get v o hv with ⟨u, o2, p, _, _, q3, q4, q5, _, q6, q7⟩ | ⟨q1, p, q2, q3, q4⟩
      · exact ⟨p, q3, q5, fun k => q6 (by rw [← q4]; exact k), fun k => q7 (by rw [← q4]; exact k)⟩
      · exact ⟨p, q2, q3, fun k => (by rw [q1] at k; cases k), fun _ => q4⟩
    · rcases objs_get v o a with ⟨u, o2, q, x1, x2, x3, x4, _, x6, _⟩ | ⟨q1, _⟩
      · rcases objs_get v' o' b with ⟨u', o2', q', y1, y2, y3, y4, _, y6, _⟩ | ⟨q1, _⟩
        · rw [x3] at hp; cases hp
          rw [y3] at hp'; cases hp'
          have := hr.inj u u' o2 o2' _ _ x1 y1 (by rw [← x4]; exact k) (by rw [← y4]; exact k') x2 y2 e
          have := natsApart_inj s3 (x6 k) (y6 k') this
          injection this
        · rw [q1] at k'; cases k'
      · rw [q1] at k; cases k
    · rcases objs_get v o hv with ⟨u, o2, q, x1, x2, x3, x4, _⟩ | ⟨q1, _⟩
      · rw [x3] at hp; cases hp
        exact hr.aprt u o2 _ x1 (by rw [← x4]; exact ho) x2
      · rw [q1] at ho; cases ho
  · obtain ⟨ex, e⟩ := g1 k hk
    refine ⟨ex, ?_⟩
    have hk : k < ng := hk
    show (if k < ng then _ else _) = _
    rw [if_pos hk]; exact e
end Go.Vsx
