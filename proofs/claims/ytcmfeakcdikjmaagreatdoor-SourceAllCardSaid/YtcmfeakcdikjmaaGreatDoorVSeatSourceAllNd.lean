/- The law's nodes: states at its loops' heads. No conditions. -/
import Derived.Test.YtcmfeakcdikjmaaGreatDoorVGlue
import Derived.Test.YtcmfeakcdikjmaaGreatDoorVSeatRun4
set_option linter.all false
namespace Go.Proofs
open Go Go.Vsx
set_option maxRecDepth 1000000
noncomputable section
theorem Zw.ft : (genPT 12 (fun f => Tryz.prog.funcs[f]?)).get 3 = some Tryz.f3 := by kernel_rfl
theorem Zw.envF (m : List (Nat × PrimK)) (sy : PT (List SE)) : EnvF Tryz.prog (Tryz.Es m sy) 8 := by
  have := mkEnvS_fn (P := Tryz.prog) Tryz.ext (ptOf (m ++ Tryz.primL)) sy Tryz.chk
  rw [Tryz.nglob] at this; exact this
noncomputable def Zw.chR (a n : Nat) : List Value := (List.range' a n).map fun i => .chan (some i)
def Zw.sg (a : Nat) : SE := ⟨.bin .geq, .chan (some a), .int .i64 0, .bool true⟩
def Zw.sl (a : Nat) (c : Int) : SE := ⟨.bin .lss, .chan (some a), .int .i64 c, .bool true⟩
theorem Zw.hg {m : Mu} {a : Nat} {x : Int} (h : m.at_ a = some (.int .i64 x)) (q : 0 ≤ x) : SymHolds m (.bin .geq) (.chan (some a)) (.int .i64 0) (.bool true) := hold_bool (.atom _ _ h) (.int _ _) (op_geq_t q)
theorem Zw.hl {m : Mu} {a : Nat} {x c : Int} (h : m.at_ a = some (.int .i64 x)) (q : x < c) : SymHolds m (.bin .lss) (.chan (some a)) (.int .i64 c) (.bool true) := hold_bool (.atom _ _ h) (.int _ _) (op_lss_t q)
noncomputable def Zw.gr : List (Nat × AObj) := [(0, (.row ⟨[(ch 0)], 1, 0, 1, true, false, false⟩)), (1, (.row ⟨[(ch 1)], 1, 0, 1, true, false, false⟩))]
noncomputable def Zw.pS : Pt := ptStart Tryz.f3
theorem Zw.kS (m : List (Nat × PrimK)) (sy : PT (List SE)) : okPt (Tryz.Es m sy) 8 Zw.pS = true := okPt_start (Zw.envF m sy) Zw.ft
noncomputable def Zw.p0 : Pt := ptOfBlock 0 Tryz.f3
theorem Zw.k0 (m : List (Nat × PrimK)) (sy : PT (List SE)) : okPt (Tryz.Es m sy) 8 Zw.p0 = true := okPt_block (Zw.envF m sy) Zw.ft 0
noncomputable def Zw.p2 : Pt := ptOfBlock 2 Tryz.f3
theorem Zw.k2 (m : List (Nat × PrimK)) (sy : PT (List SE)) : okPt (Tryz.Es m sy) 8 Zw.p2 = true := okPt_block (Zw.envF m sy) Zw.ft 2
noncomputable def Zw.d0 : Nd := ⟨156, [(0, (ch 1000)), (1, (ch 1001))], 10, Zw.gr ++ []⟩
def Zw.eG (a : Nat) (c : Int) (r : Bool) : SE := ⟨.bin .geq, ch a, .int .i64 c, .bool r⟩
def Zw.eL (a : Nat) (c : Int) (r : Bool) : SE := ⟨.bin .lss, ch a, .int .i64 c, .bool r⟩
def Zw.eC (op : BinOp) (a : Nat) (c : Int) (r : Bool) : SE := ⟨.bin op, ch a, .int .i64 c, .bool r⟩
def Zw.eS (op : BinOp) (a : Nat) (r : Bool) : SE := ⟨.bin op, ch a, ch a, .bool r⟩
def Zw.eO (op : BinOp) (a : Nat) (c : Int) (r : Nat) : SE := ⟨.bin op, ch a, .int .i64 c, ch r⟩
def Zw.rj : Nat → Nat → List SE
  | 0, b => [Zw.eG b 0 false]
  | 1, b => [Zw.eG b 0 true, Zw.eL b 8 false]
  | 2, b => [Zw.eG b 0 true, Zw.eL b 8 true, Zw.eG (b + 1) 0 false]
  | 3, b => [Zw.eG b 0 true, Zw.eL b 8 true, Zw.eG (b + 1) 0 true, Zw.eL (b + 1) 4 false]
  | _, b => [Zw.eG b 0 true, Zw.eL b 8 true, Zw.eG (b + 1) 0 true, Zw.eL (b + 1) 4 true]
def Zw.ixs (y : Nat → Value) : Nat → List SE
  | 0 => []
  | n + 1 => ⟨.idx 3, ch 1002, y n, .pointer (some ⟨8, 3 * n, none⟩)⟩ :: Zw.ixs y n
def Zw.good : Nat → List SE
  | 0 => []
  | n + 1 => Zw.rj 4 (1005 + 3 * n) ++ Zw.good n
def Zw.lts : Nat → List SE
  | 0 => []
  | n + 1 => ⟨.bin .lss, .int .i64 (Int.ofNat n), ch 1004, .bool true⟩ :: Zw.lts n
def Zw.tG (L : Nat) (n : Bool) : List SE := [⟨.len, ch 1000, .int .i64 0, ch 1003⟩, ⟨.mn, ch 1003, .int .i64 65, .int .i64 (Int.ofNat L)⟩, ⟨.slTo, ch 1000, .int .i64 (Int.ofNat L), ch 1002⟩, ⟨.len, ch 1002, .int .i64 0, .int .i64 (Int.ofNat L)⟩, ⟨.nil, ch 1002, .int .i64 0, .bool n⟩] ++
  (Zw.ixs (fun i => .int .i64 (Int.ofNat i)) L ++ Zw.good L)
def Zw.tH (c : Bool) : List SE := [⟨.len, ch 1000, .int .i64 0, ch 1003⟩, ⟨.mn, ch 1003, .int .i64 65, ch 1004⟩, ⟨.slTo, ch 1000, ch 1004, ch 1002⟩, ⟨.len, ch 1002, .int .i64 0, ch 1004⟩, Zw.eC .gtr 1004 60 (!c), Zw.eC .leq 1004 60 c]
def Zw.tB (j k : Nat) : List SE := Zw.tH true ++ (Zw.lts (j + 1) ++ (Zw.ixs (fun i => .int .i64 (Int.ofNat i)) (j + 1) ++ (Zw.good j ++ Zw.rj k (1005 + 3 * j))))
def Zw.dM (m : Bool) : Nd := ⟨156, [(0, ch 1000), (1, ch 1001), (6, .pointer none), (7, .bool m), (28, ch 1002), (29, ch 1003)] ++ poison 156, 10, Zw.gr ++ []⟩
def Zw.tM (k : Nat) : List SE := [⟨.bin .lss, ch 1003, ch 1002, .bool true⟩, ⟨.idx 3, ch 1000, ch 1003, .pointer (some ⟨8, 0, none⟩)⟩, Zw.eO .add 1003 1 1007] ++ Zw.rj k 1004
def Zw.kM : Nat → Bool → Bool
  | 4, m => m
  | _, _ => false
def Zw.dN (L : Nat) (n : Bool) : Nd := match L, n with
  | 0, true => ⟨156, [(0, ch 1000), (1, ch 1001), (6, .pointer (some ⟨10, 0, none⟩)), (9, ch 1003), (10, ch 1002)] ++ poison 156, 12, Zw.gr ++ [(10, .row ⟨[.slice none 0 0, ch 1003], 2, 81, 2, false, false, false⟩)]⟩
  | 0, false => ⟨156, [(0, ch 1000), (1, ch 1001), (6, .pointer (some ⟨10, 0, none⟩)), (9, ch 1003), (10, ch 1002)] ++ poison 156, 12, Zw.gr ++ [(10, .row ⟨[.slice (some ⟨11, 0, none⟩) 0 0, ch 1003], 2, 81, 2, false, false, false⟩), (11, .row ⟨[], 0, 29, 3, false, false, false⟩)]⟩
  | L + 1, _ => ⟨156, [(0, ch 1000), (1, ch 1001), (6, .pointer (some ⟨10, 0, none⟩)), (9, ch 1003), (10, ch 1002)] ++ poison 156, 12, Zw.gr ++ [(10, .row ⟨[.slice (some ⟨11, 0, some 1⟩) (L + 1) (L + 1), ch 1003], 2, 81, 2, false, false, false⟩), (11, .row ⟨Zw.chR 1004 (3 * (L + 1)), 3 * (L + 1), 29, 3, false, true, false⟩)]⟩
def Zw.rlG : Nat → Bool → List (Nat × Nat)
  | 0, true => [(10, 10)]
  | 0, false => [(10, 11), (11, 10)]
  | L + 1, _ => [(10, 14 + 2 * L), (11, 13 + 2 * L)]
def Zw.rlN : Nat → Bool → List (Nat × Nat)
  | 0, true => [(10, 10)]
  | _, _ => [(10, 10), (11, 11)]
def Zw.roG : Nat → List (List Value)
  | 0 => []
  | L + 1 => [Zw.chR 1005 (3 * (L + 1))]
def Zw.cN (L b : Nat) : List SE := [⟨.len, ch 1001, .int .i64 0, ch (b + 2)⟩, ⟨.bin .lss, ch 1002, ch (b + 2), .bool true⟩, Zw.eL 1002 60 true, ⟨.idx 2, ch 1001, ch 1002, .pointer (some ⟨8, 0, none⟩)⟩, ⟨.len, ch 1000, .int .i64 0, .int .i64 (Int.ofNat L)⟩, Zw.eO .add 1002 1 (b + 3)]
def Zw.tP (L K : Nat) : List SE := Zw.cN L (1004 + 3 * L) ++ [Zw.eC .eql (1004 + 3 * L) 0 true, Zw.eG 1003 (Int.ofNat L) false, Zw.eO .add 1003 1 (1004 + 3 * L + 4), Zw.eO .sub (1004 + 3 * L + 4) 1 (1004 + 3 * L + 5),
  ⟨.fix, ch (1004 + 3 * L + 5), .int .i64 0, .int .i64 (Int.ofNat K)⟩, Zw.eL 1003 (Int.ofNat L) true, ⟨.idx 3, ch 1000, ch 1003, .pointer (some ⟨9, 0, none⟩)⟩, Zw.eS .eql (1004 + 3 * K) true, Zw.eS .eql (1004 + 3 * K + 1) true, Zw.eS .eql (1004 + 3 * K + 2) true, Zw.eS .neq (1004 + 3 * L + 4) false]
def Zw.tQ (L : Nat) : Nat → List SE
  | 0 => Zw.cN L (1004 + 3 * L) ++ [Zw.eC .eql (1004 + 3 * L) 0 true, Zw.eG 1003 (Int.ofNat L) true, Zw.eL 1003 (Int.ofNat L) false, Zw.eS .neq 1003 false]
  | 1 => Zw.cN L (1004 + 3 * L) ++ [Zw.eC .eql (1004 + 3 * L) 0 false, Zw.eG (1004 + 3 * L + 1) 0 true, Zw.eC .leq (1004 + 3 * L + 1) (Int.ofNat L) true, Zw.eL (1004 + 3 * L + 1) 0 false, Zw.eC .gtr (1004 + 3 * L + 1) (Int.ofNat L) false, Zw.eS .neq (1004 + 3 * L + 1) false]
  | 2 => Zw.cN L (1004 + 3 * L) ++ [Zw.eC .eql (1004 + 3 * L) 0 false, Zw.eG (1004 + 3 * L + 1) 0 false, Zw.eL (1004 + 3 * L + 1) 0 true, Zw.eS .neq 1003 false]
  | _ => Zw.cN L (1004 + 3 * L) ++ [Zw.eC .eql (1004 + 3 * L) 0 false, Zw.eG (1004 + 3 * L + 1) 0 true, Zw.eC .leq (1004 + 3 * L + 1) (Int.ofNat L) false, Zw.eL (1004 + 3 * L + 1) 0 false, Zw.eC .gtr (1004 + 3 * L + 1) (Int.ofNat L) true, Zw.eS .neq 1003 false]
def Zw.atQ (L : Nat) : Nat → Value
  | 1 => ch (1004 + 3 * L + 1)
  | _ => ch 1003
def Zw.tX (L : Nat) : Bool → List SE
  | false => [⟨.len, ch 1001, .int .i64 0, ch (1004 + 3 * L)⟩, ⟨.bin .lss, ch 1002, ch (1004 + 3 * L), .bool false⟩]
  | true => [⟨.len, ch 1001, .int .i64 0, ch (1004 + 3 * L)⟩, ⟨.bin .lss, ch 1002, ch (1004 + 3 * L), .bool true⟩, Zw.eL 1002 60 false]
def Zw.roP (L K : Nat) : List (List Value) := [[ch (1004 + 3 * L), ch (1004 + 3 * L + 1)], [ch (1004 + 3 * K), ch (1004 + 3 * K + 1), ch (1004 + 3 * K + 2)]]
def Zw.roQ (L : Nat) : List (List Value) := [[ch (1004 + 3 * L), ch (1004 + 3 * L + 1)]]
def Zw.LG (L : Nat) (n : Bool) : Option Pt := leafNext (fK (Tryz.Es Tryz.m4 (syOf (Zw.tG L n))) 100000 100000 Zw.pS (Zw.d0.st 8 (Zw.roG L)) (L + 1)) 8 (Zw.dN L n) (Zw.rlG L n) ([ch 1002, ch 1001, .int .i64 0, .int .i64 0] ++ Zw.chR 1005 (3 * L))
def Zw.LB (j k : Nat) : Option Pt := leafNext (fK (Tryz.Es Tryz.m4 (syOf (Zw.tB j k))) 100000 100000 Zw.pS (Zw.d0.st 8 [Zw.chR 1005 (3 * (j + 1))]) 0) 8 (Zw.dM true) [] [ch 1002, ch 1001, ch 1004, .int .i64 0]
def Zw.LC : Option Pt := leafNext (fK (Tryz.Es Tryz.m4 (syOf (Zw.tH false))) 100000 100000 Zw.pS (Zw.d0.st 8 []) 0) 8 (Zw.dM false) [] [ch 1002, ch 1001, ch 1004, .int .i64 0]
def Zw.LM (m : Bool) (k : Nat) : Option Pt := leafNext (fK (Tryz.Es Tryz.m4 (syOf (Zw.tM k))) 100000 100000 Zw.p0 ((Zw.dM m).st 8 [[ch 1004, ch 1005, ch 1006]]) 1) 8 (Zw.dM (Zw.kM k m)) [] [ch 1000, ch 1001, ch 1002, ch 1007]
def Zw.fM : Bool := leafFin (Tryz.Es Tryz.m4 (syOf [⟨.bin .lss, ch 1003, ch 1002, .bool false⟩])) Tryz.f3 (fK (Tryz.Es Tryz.m4 (syOf [⟨.bin .lss, ch 1003, ch 1002, .bool false⟩])) 100000 100000 Zw.p0 ((Zw.dM false).st 8 []) 100)
def Zw.LP (L K : Nat) : Option Pt := leafNext (fK (Tryz.Es Tryz.m4 (syOf (Zw.tP L K))) 100000 100000 Zw.p2 ((Zw.dN L false).st 8 (Zw.roP L K)) 1) 8 (Zw.dN L false) (Zw.rlN L false) ([ch 1000, ch 1001, ch (1004 + 3 * L + 3), ch (1004 + 3 * L + 4)] ++ Zw.chR 1004 (3 * L))
def Zw.LQ (q L : Nat) (n : Bool) : Option Pt := leafNext (fK (Tryz.Es Tryz.m4 (syOf (Zw.tQ L q))) 100000 100000 Zw.p2 ((Zw.dN L n).st 8 (Zw.roQ L)) 1) 8 (Zw.dN L n) (Zw.rlN L n) ([ch 1000, ch 1001, ch (1004 + 3 * L + 3), Zw.atQ L q] ++ Zw.chR 1004 (3 * L))
def Zw.fX (L : Nat) (n e : Bool) : Bool := leafFin (Tryz.Es Tryz.m4 (syOf (Zw.tX L e))) Tryz.f3 (fK (Tryz.Es Tryz.m4 (syOf (Zw.tX L e))) 100000 100000 Zw.p2 ((Zw.dN L n).st 8 []) 100)
def Zw.hS (roc : List (List Value)) : Bool := Zw.d0.sub 8 roc (idl 8 Zw.d0.objs) (idA 2) (Zw.d0.st 8 [])
def Zw.hM (m : Bool) (roc : List (List Value)) : Bool := (Zw.dM m).sub 8 roc (idl 8 (Zw.dM m).objs) (idA 4) ((Zw.dM m).st 8 [])
def Zw.hN (L : Nat) (n : Bool) (roc : List (List Value)) : Bool := (Zw.dN L n).sub 8 roc (idl 8 (Zw.dN L n).objs) (idA (4 + 3 * L)) ((Zw.dN L n).st 8 [])
def Zw.al (f : Nat → Bool) : Nat → Bool := fun n => @Nat.rec (fun _ => Bool) true (fun k ih => @Bool.rec (fun _ => Bool) false ih (f k)) n
end
theorem Zw.al_get {f : Nat → Bool} : ∀ {n : Nat}, Zw.al f n = true → ∀ k, k < n → f k = true
  | 0, _, _, hk => absurd hk (Nat.not_lt_zero _)
  | n + 1, h, k, hk => by
    have h' : @Bool.rec (fun _ => Bool) false (Zw.al f n) (f n) = true := h
    cases hf : f n with
    | false => rw [hf] at h'; cases h'
    | true =>
      rw [hf] at h'
      rcases Nat.lt_or_ge k n with h2 | h2
      · exact Zw.al_get h' k h2
      · obtain rfl : k = n := by omega
        exact hf
theorem Zw.rep {α : Type} {f : Nat → α} {v : α} {N : Nat} (h : (List.range N).map f = List.replicate N v) (x : Nat) (hx : x < N) : f x = v := by
  have h1 : ((List.range N).map f)[x]? = some (f x) := by simp [hx]
  rw [h] at h1
  simp [hx] at h1
  exact h1.symm
end Go.Proofs
