/- The law's nodes: states at its loops' heads. No conditions. -/
import Derived.Test.YtegeiefgjngihaaGreatDoorVGlue
import Derived.Test.YtegeiefgjngihaaGreatDoorVSeatRun4
set_option linter.all false
namespace Go.Proofs
open Go Go.Vsx
set_option maxRecDepth 1000000
noncomputable section
theorem Zw.ft : (genPT 12 (fun f => Tryz.prog.funcs[f]?)).get 6 = some Tryz.f6 := by kernel_rfl
theorem Zw.envF (m : List (Nat × PrimK)) (sy : PT (List SE)) : EnvF Tryz.prog (Tryz.Es m sy) 8 := by
  have := mkEnvS_fn (P := Tryz.prog) Tryz.ext (ptOf (m ++ Tryz.primL)) sy Tryz.chk
  rw [Tryz.nglob] at this; exact this
noncomputable def Zw.chR (a n : Nat) : List Value := (List.range' a n).map fun i => .chan (some i)
def Zw.sg (a : Nat) : SE := ⟨.bin .geq, .chan (some a), .int .i64 0, .bool true⟩
def Zw.sl (a : Nat) (c : Int) : SE := ⟨.bin .lss, .chan (some a), .int .i64 c, .bool true⟩
theorem Zw.hg {m : Mu} {a : Nat} {x : Int} (h : m.at_ a = some (.int .i64 x)) (q : 0 ≤ x) : SymHolds m (.bin .geq) (.chan (some a)) (.int .i64 0) (.bool true) := hold_bool (.atom _ _ h) (.int _ _) (op_geq_t q)
theorem Zw.hl {m : Mu} {a : Nat} {x c : Int} (h : m.at_ a = some (.int .i64 x)) (q : x < c) : SymHolds m (.bin .lss) (.chan (some a)) (.int .i64 c) (.bool true) := hold_bool (.atom _ _ h) (.int _ _) (op_lss_t q)
noncomputable def Zw.gr : List (Nat × AObj) := [(0, (.row ⟨[(ch 0)], 1, 0, 1, true, false, false⟩)), (1, (.row ⟨[(ch 1)], 1, 0, 1, true, false, false⟩))]
noncomputable def Zw.pS : Pt := ptStart Tryz.f6
theorem Zw.kS (m : List (Nat × PrimK)) (sy : PT (List SE)) : okPt (Tryz.Es m sy) 8 Zw.pS = true := okPt_start (Zw.envF m sy) Zw.ft
noncomputable def Zw.p0 : Pt := ptOfBlock 0 Tryz.f6
theorem Zw.k0 (m : List (Nat × PrimK)) (sy : PT (List SE)) : okPt (Tryz.Es m sy) 8 Zw.p0 = true := okPt_block (Zw.envF m sy) Zw.ft 0
noncomputable def Zw.p4 : Pt := ptOfBlock 4 Tryz.f6
theorem Zw.k4 (m : List (Nat × PrimK)) (sy : PT (List SE)) : okPt (Tryz.Es m sy) 8 Zw.p4 = true := okPt_block (Zw.envF m sy) Zw.ft 4
noncomputable def Zw.d0 : Nd := ⟨137, [(0, (ch 1000)), (1, (ch 1001))], 10, Zw.gr ++ []⟩
noncomputable def Zw.dA : Nat → Nd
  | 0 => ⟨137, [(0, (ch 1000)), (1, (ch 1001)), (6, (.slice none 0 0)), (7, (ch 1002))] ++ poison 137, 10, Zw.gr ++ []⟩
  | n + 1 => ⟨137, [(0, (ch 1000)), (1, (ch 1001)), (6, (.slice (some ⟨10, 0, some 1⟩) (n + 1) (n + 1))), (7, (ch 1002))] ++ poison 137, 11, Zw.gr ++ [(10, (.row ⟨Zw.chR 1003 (3 * (n + 1)), 3 * (n + 1), 25, 3, false, true, false⟩))]⟩
noncomputable def Zw.dB : Nat → Nd
  | 0 => ⟨137, [(6, (.slice none 0 0)), (8, (.pointer (some ⟨10, 0, none⟩))), (15, (ch 1000))] ++ poison 137, 11, Zw.gr ++ [(10, (.row ⟨[(.slice none 0 0), (ch 1000)], 2, 88, 2, false, false, false⟩))]⟩
  | n + 1 => ⟨137, [(6, (.slice (some ⟨10, 0, some 1⟩) (n + 1) (n + 1))), (8, (.pointer (some ⟨11, 0, none⟩))), (15, (ch 1000))] ++ poison 137, 13, Zw.gr ++ [(10, (.row ⟨Zw.chR 1001 (3 * (n + 1)), 3 * (n + 1), 25, 3, false, true, false⟩)), (11, (.row ⟨[(.slice (some ⟨12, 0, some 1⟩) (n + 1) (n + 1)), (ch 1000)], 2, 88, 2, false, false, false⟩)), (12, (.row ⟨Zw.chR 1001 (3 * (n + 1)), 3 * (n + 1), 25, 3, false, true, false⟩))]⟩
def Zw.eG (a : Nat) (c : Int) (r : Bool) : SE := ⟨.bin .geq, ch a, .int .i64 c, .bool r⟩
def Zw.eL (a : Nat) (c : Int) (r : Bool) : SE := ⟨.bin .lss, ch a, .int .i64 c, .bool r⟩
def Zw.eE (a : Nat) : SE := ⟨.bin .eql, ch a, ch a, .bool true⟩
def Zw.eO (op : BinOp) (a : Nat) (c : Int) (r : Nat) : SE := ⟨.bin op, ch a, .int .i64 c, ch r⟩
def Zw.pre (b : Nat) : List SE := [⟨.len, ch 1000, .int .i64 0, ch (b + 3)⟩, ⟨.bin .lss, ch 1002, ch (b + 3), .bool true⟩, ⟨.idx 3, ch 1000, ch 1002, .pointer (some ⟨8, 0, none⟩)⟩, Zw.eO .add 1002 1 (b + 4)]
def Zw.rj : Nat → Nat → List SE
  | 0, b => [Zw.eG b 0 false]
  | 1, b => [Zw.eG b 0 true, Zw.eL b 8 false]
  | 2, b => [Zw.eG b 0 true, Zw.eL b 8 true, Zw.eG (b + 1) 0 false]
  | 3, b => [Zw.eG b 0 true, Zw.eL b 8 true, Zw.eG (b + 1) 0 true, Zw.eL (b + 1) 4 false]
  | _, b => [Zw.eG b 0 true, Zw.eL b 8 true, Zw.eG (b + 1) 0 true, Zw.eL (b + 1) 4 true]
def Zw.tR (k b : Nat) : List SE := Zw.pre b ++ Zw.rj k b
def Zw.e4 : Nat → List SE
  | 0 => []
  | n + 1 => [Zw.eG (1003 + 3 * n) 0 true, Zw.eL (1003 + 3 * n) 8 true, Zw.eG (1003 + 3 * n + 1) 0 true, Zw.eL (1003 + 3 * n + 1) 4 true, Zw.eE (1003 + 3 * n), Zw.eE (1003 + 3 * n + 1), Zw.eE (1003 + 3 * n + 2)] ++ Zw.e4 n
def Zw.tail (L b : Nat) : List SE := [Zw.eO .rem 1001 (Int.ofNat (L + 1)) (b + 1), Zw.eO .add (b + 1) (Int.ofNat L) (b + 2), Zw.eO .add (b + 2) 1 (b + 3), Zw.eO .rem (b + 3) (Int.ofNat (L + 1)) (b + 4), Zw.eL (b + 4) 0 false, ⟨.bin .gtr, ch (b + 4), .int .i64 (Int.ofNat L), .bool false⟩]
def Zw.tE (L : Nat) (c : Bool) : List SE := [⟨.len, ch 1000, .int .i64 0, ch (1003 + 3 * L)⟩, ⟨.bin .lss, ch 1002, ch (1003 + 3 * L), .bool c⟩] ++ (Zw.tail L (1003 + 3 * L) ++ Zw.e4 L)
def Zw.tK (L K : Nat) : List SE := [Zw.eL 1000 (Int.ofNat L) true, Zw.eG 1000 (Int.ofNat L) false, Zw.eO .add 1000 1 (1001 + 3 * L), Zw.eO .sub (1001 + 3 * L) 1 (1001 + 3 * L + 1),
  ⟨.fix, ch (1001 + 3 * L + 1), .int .i64 0, .int .i64 (Int.ofNat K)⟩, ⟨.fix, ch 1000, .int .i64 0, .int .i64 (Int.ofNat K)⟩, Zw.eE (1001 + 3 * K), Zw.eE (1001 + 3 * K + 1), Zw.eE (1001 + 3 * K + 2), ⟨.bin .neq, ch (1001 + 3 * L), ch (1001 + 3 * L), .bool false⟩]
def Zw.tF (L : Nat) : List SE := [Zw.eL 1000 (Int.ofNat L) false, ⟨.bin .eql, ch 1000, .int .i64 (Int.ofNat L), .bool true⟩]
def Zw.rlR : Nat → List (Nat × Nat)
  | 0 => []
  | _ => [(10, 10)]
def Zw.rlA : Nat → List (Nat × Nat)
  | 0 => [(10, 12)]
  | _ => [(10, 13)]
def Zw.rlE : Nat → List (Nat × Nat)
  | 0 => [(10, 10)]
  | n + 1 => [(10, 10), (11, 15 + 2 * n), (12, 14 + 2 * n)]
def Zw.roA (L : Nat) : List (List Value) := [[ch (1003 + 3 * L), ch (1003 + 3 * L + 1), ch (1003 + 3 * L + 2)]]
def Zw.L0 : Option Pt := leafNext (fK (Tryz.Es Tryz.m4 (syOf [])) 100000 100000 Zw.pS (Zw.d0.st 8 []) 0) 8 (Zw.dA 0) [] [(ch 1000), (ch 1001), (.int .i64 0)]
def Zw.LR (k L : Nat) : Option Pt := leafNext (fK (Tryz.Es Tryz.m4 (syOf (Zw.tR k (1003 + 3 * L)))) 100000 100000 Zw.p0 ((Zw.dA L).st 8 (Zw.roA L)) 1) 8 (Zw.dA L) (Zw.rlR L) ([ch 1000, ch 1001, ch (1003 + 3 * L + 4)] ++ Zw.chR 1003 (3 * L))
def Zw.LA (L : Nat) : Option Pt := leafNext (fK (Tryz.Es Tryz.m4 (syOf (Zw.tR 4 (1003 + 3 * L)))) 100000 100000 Zw.p0 ((Zw.dA L).st 8 (Zw.roA L)) 1) 8 (Zw.dA (L + 1)) (Zw.rlA L) ([ch 1000, ch 1001, ch (1003 + 3 * L + 4)] ++ Zw.chR 1003 (3 * L + 3))
def Zw.LE (L : Nat) (c : Bool) : Option Pt := leafNext (fK (Tryz.Es Tryz.m4 (syOf (Zw.tE L c))) 100000 100000 Zw.p0 ((Zw.dA L).st 8 []) (L + 2)) 8 (Zw.dB L) (Zw.rlE L) ([ch (1003 + 3 * L + 4)] ++ Zw.chR 1003 (3 * L))
def Zw.LK (L K : Nat) : Option Pt := leafNext (fK (Tryz.Es Tryz.m4 (syOf (Zw.tK L K))) 100000 100000 Zw.p4 ((Zw.dB L).st 8 []) 1) 8 (Zw.dB L) [(10, 10), (11, 11), (12, 12)] ([ch (1001 + 3 * L)] ++ Zw.chR 1001 (3 * L))
def Zw.hidA (roc : List (List Value)) (L : Nat) : Bool := (Zw.dA L).sub 8 roc (idl 8 (Zw.dA L).objs) (idA (3 + 3 * L)) ((Zw.dA L).st 8 [])
def Zw.hidB (L : Nat) : Bool := (Zw.dB L).sub 8 [] (idl 8 (Zw.dB L).objs) (idA (1 + 3 * L)) ((Zw.dB L).st 8 [])
def Zw.finB (L : Nat) : Bool := leafFin (Tryz.Es Tryz.m4 (syOf (Zw.tF L))) Tryz.f6 (fK (Tryz.Es Tryz.m4 (syOf (Zw.tF L))) 100000 100000 Zw.p4 ((Zw.dB L).st 8 []) 1)
def Zw.allU (f : Nat → Bool) : Nat → Bool := fun n => @Nat.rec (fun _ => Bool) true (fun k ih => @Bool.rec (fun _ => Bool) false ih (f k)) n
end
theorem Zw.allU_get {f : Nat → Bool} : ∀ {n : Nat}, Zw.allU f n = true → ∀ k, k < n → f k = true
  | 0, _, _, hk => absurd hk (Nat.not_lt_zero _)
  | n + 1, h, k, hk => by
    have h' : @Bool.rec (fun _ => Bool) false (Zw.allU f n) (f n) = true := h
    cases hf : f n with
    | false => rw [hf] at h'; cases h'
    | true =>
      rw [hf] at h'
      rcases Nat.lt_or_ge k n with h2 | h2
      · exact Zw.allU_get h' k h2
      · obtain rfl : k = n := by omega
        exact hf
end Go.Proofs
