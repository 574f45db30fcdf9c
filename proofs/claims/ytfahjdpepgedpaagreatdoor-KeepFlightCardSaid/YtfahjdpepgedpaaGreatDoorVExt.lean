/- Library functions without a body: the model's own entries. -/
import Derived.Test.YtfahjdpepgedpaaGreatDoorVCtl2
import Derived.Laws.Externs
import Derived.Laws.StandIn
import Derived.Lib.Bytealg
import Derived.Lib.MakeNoZero
set_option linter.all false
namespace Go.Vsx
open Go Go.RowKit

/-- The entry of a row. -/
def ExtFits (P : Program) (f : FuncId) (k : ExtK) : Prop :=
  ∃ fn, P.funcs[f]? = some fn ∧ (fn.name == "runtime.NumGoroutine") = false ∧ fn.body.isNone = true ∧ Extern.findNext fn = none ∧
    match k with
    | .overlaps _ => True
    | .mapsClone => Extern.find fn = some Extern.MapsClone.clone
    | .noEscape => Extern.find fn = some Extern.AbiNoEscape.same
    | .makeNoZero e => ∃ ps t, Extern.find fn = some (Extern.BytealgMakeNoZero.makeNoZero ps #[t]) ∧ P.underlying t = some (.slice e)
    | .count => Extern.find fn = some Extern.BytealgCount.count
    | .cmp => Extern.find fn = some Extern.BytealgCompare.compare
    | .indexByte => Extern.find fn = some Extern.BytealgIndexByte.indexByte

theorem run_count {P : Program} (s : ByteArray) (c : Int) (w : World) :
    (Extern.BytealgCount.count #[.string s, .int .u8 c]).run P w = .ok (.int .i64 (s.data.toList.foldl (fun n x => if x == c.toNat.toUInt8 then n + 1 else n) (0 : Nat))) w := by
  change Sem.run P (do
    let b ← Extern.Bytes.bytesOf (.string s)
    let c' ← Extern.Bytes.asByte (.int .u8 c)
    pure (goInt (b.foldl (fun n x => if x == c' then n + 1 else n) (0 : Nat)))) w = _
  simp only [Extern.Bytes.bytesOf, Extern.Bytes.asByte, Sem.run_bind, Sem.run_pure, Result.andThen, Lib.foldl_data, goInt]

theorem ext_ok {P : Program} {E : Env} (T : TyOk P E) (h : ∀ f k, E.ext.get f = some k → ExtFits P f k) : ExtOk P E := by
  intro f k hk B W0 μ H w args args' v H' Y hr hl hrun
  obtain ⟨fn, hf, hname, hb, hn, hfit⟩ := h f k hk
  have call : ∀ {e : Array Value → Sem Value} {v' : Value} {w' : World}, Extern.find fn = some e → (e args').run P w = .ok v' w' → (callFunc f args').run P w = .ok (.value v') w' := by
    intro e v' w' he hrun
    rw [run_callFunc_extern hf hname hb hn he, hrun]; rfl
  have one : ∀ {x : Value}, VL μ [x] args'.toList → ∃ x', args' = #[x'] ∧ VR μ x x' := by
    intro x hl
    obtain ⟨x', r1, e1, hx, hl1⟩ := hl.cons_inv
    obtain rfl := hl1.nil_inv
    exact ⟨x', Array.toList_inj.1 (by rw [e1]), hx⟩
  have two : ∀ {x y : Value}, VL μ [x, y] args'.toList → ∃ x' y', args' = #[x', y'] ∧ VR μ x x' ∧ VR μ y y' := by
    intro x y hl
    obtain ⟨x', r1, e1, hx, hl1⟩ := hl.cons_inv
    obtain ⟨y', r2, rfl, hy, hl2⟩ := hl1.cons_inv
    obtain rfl := hl2.nil_inv
    exact ⟨x', y', Array.toList_inj.1 (by rw [e1]), hx, hy⟩
  unfold extA at hrun
  split at hrun
  · rename_i t r
    split at hrun
    case h_2 => cases hrun
    case h_1 es clock hget =>
    cases hrun
    obtain ⟨x', rfl, hx⟩ := one hl
    cases hx with
    | iface _ _ y' hy =>
    cases hy with
    | map _ q hq =>
    obtain ⟨q', hq', hOR, _⟩ := hr.obj r _ hget
    rw [hq] at hq'; cases hq'
    obtain ⟨es', hm, hlen, hME⟩ := hOR
    have hle : μ.le (μ.ext H.next ⟨w.heap.size, 0, 0⟩) := Mu.le_ext (hr.fresh _ (Nat.le_refl _))
    refine ⟨.iface t (.map (some w.heap.size)), { w with heap := w.heap.push (.map es' clock) }, μ.ext H.next ⟨w.heap.size, 0, 0⟩, call hfit ?_, hle, ?_, ?_⟩
    · change Sem.run P (do
        let .map entries clock ← getObj q.blk | stuck "maps.clone: a map expected"
        pure (Value.iface t (.map (some (← newObj (.map entries clock)))))) w = _
      simp [getObj, Sem.run, hm, newObj]
    · exact hr.push _ _ 0 0 rfl ⟨es', by simp, hlen, fun i e e' a b => (hME i e e' a b).mono hle⟩
    · exact .iface t _ _ (.map H.next ⟨w.heap.size, 0, 0⟩ (Mu.ext_same ..))
  · cases hrun
    obtain ⟨x', rfl, hx⟩ := one hl
    exact ⟨x', w, μ, call hfit rfl, μ.le_refl, hr, hx⟩
  · rename_i e n
    simp only [Option.bind_eq_bind, Option.bind_eq_some_iff] at hrun
    obtain ⟨s, hs, hrun⟩ := hrun
    split at hrun
    case isFalse => cases hrun
    case isTrue hc =>
    cases hrun
    simp only [Bool.and_eq_true, decide_eq_true_eq] at hc
    obtain ⟨_, h0, h1⟩ := hc
    obtain ⟨x', rfl, hx⟩ := one hl
    cases hx
    obtain ⟨m, rfl⟩ : ∃ m : Nat, n = (m : Int) := ⟨n.toNat, by omega⟩
    obtain ⟨ps, t, he, ht⟩ := hfit
    obtain ⟨cs, c1, c2, _⟩ := Lib.run_makeNoZero (P := P) w ps t e ht m (by omega)
    have hle : μ.le (μ.ext H.next ⟨w.heap.size, 0, cs.size - m⟩) := Mu.le_ext (hr.fresh _ (Nat.le_refl _))
    refine ⟨_, _, μ.ext H.next ⟨w.heap.size, 0, cs.size - m⟩, call he c1, hle, ?_, ?_⟩
    · have := (hr.drawn (w.drawn + 1 + 1)).pushOpen (⟨[], m, e, 1, false, true, false⟩ : Row) cs (0, 0) (cs.size - m) rfl rfl (by intro i v hv; simp at hv) (by simp) (by simp only [Nat.mul_one]; omega) (.inl rfl) (fun _ => rfl)
      exact this
    · have := VR.slo (μ := μ.ext H.next ⟨w.heap.size, 0, cs.size - m⟩) H.next 0 m m ⟨w.heap.size, 0, cs.size - m⟩ (Mu.ext_same ..)
      have e3 : m + (cs.size - m) = cs.size := by omega
      simp only [Nat.add_zero, e3] at this
      simpa using this
  · cases hrun
    obtain ⟨x', y', rfl, hx, hy⟩ := two hl
    cases hx; cases hy
    exact ⟨_, w, μ, call hfit (run_count _ _ w), μ.le_refl, hr, .int _ _⟩
  · cases hrun
    obtain ⟨x', y', rfl, hx, hy⟩ := two hl
    cases hx; cases hy
    exact ⟨_, w, μ, call hfit (Lib.run_compareString _ _ w), μ.le_refl, hr, .int _ _⟩
  · rename_i x y _
    obtain ⟨r, h1, h2⟩ := Option.map_eq_some_iff.1 hrun
    cases h2
    obtain ⟨x', y', rfl, hx, hy⟩ := two hl
    obtain ⟨o1, o2, _⟩ := symLook_mem h1
    obtain ⟨s, t, k1, k2, k3⟩ := Y _ _ _ _ h1
    obtain rfl := hx.one o1 k1
    obtain rfl := hy.one o2 k2
    exact ⟨_, w, μ, call hfit (Lib.run_compareString _ _ w), μ.le_refl, hr, k3⟩
  · cases hrun
    obtain ⟨x', y', rfl, hx, hy⟩ := two hl
    cases hx; cases hy
    exact ⟨_, w, μ, call hfit (Lib.run_indexByteString _ _ w), μ.le_refl, hr, .int _ _⟩
  · cases hrun
end Go.Vsx
