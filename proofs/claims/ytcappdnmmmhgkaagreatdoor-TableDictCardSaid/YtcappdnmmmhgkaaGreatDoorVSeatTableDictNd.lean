/- The law's nodes: a dictionary of k fields in room for c; the tables of what is known of its atoms. No conditions. -/
import Derived.Test.YtcappdnmmmhgkaaGreatDoorVGlue
import Derived.Test.YtcappdnmmmhgkaaGreatDoorVSeatRun4
set_option linter.all false
namespace Go.Proofs
open Go Go.Vsx
set_option maxRecDepth 1000000
noncomputable section
theorem Zw.ft : (genPT 12 (fun f => Tryz.prog.funcs[f]?)).get 3 = some Tryz.f3 := by kernel_rfl
theorem Zw.envF (m : List (Nat × PrimK)) (sy : PT (List SE)) : EnvF Tryz.prog (Tryz.Es m sy) 8 := by
  have := mkEnvS_fn (P := Tryz.prog) Tryz.ext (ptOf (m ++ Tryz.primL)) sy Tryz.chk
  rw [Tryz.nglob] at this; exact this
def Zw.gr : List (Nat × AObj) := [(0, (.row ⟨[(ch 0)], 1, 0, 1, true, false, false⟩)), (1, (.row ⟨[(ch 1)], 1, 0, 1, true, false, false⟩))]
def Zw.pS : Pt := ptStart Tryz.f3
theorem Zw.kS (m : List (Nat × PrimK)) (sy : PT (List SE)) : okPt (Tryz.Es m sy) 8 Zw.pS = true := okPt_start (Zw.envF m sy) Zw.ft
def Zw.p0 : Pt := ptOfBlock 0 Tryz.f3
theorem Zw.k0 (m : List (Nat × PrimK)) (sy : PT (List SE)) : okPt (Tryz.Es m sy) 8 Zw.p0 = true := okPt_block (Zw.envF m sy) Zw.ft 0
def Zw.d0 : Nd := ⟨85, [(0, ch 1000), (1, ch 1001), (2, ch 1002)], 10, Zw.gr ++ []⟩
def Zw.cb (op : BinOp) (x : Nat) (c : Int) (b : Bool) : SE := ⟨.bin op, ch x, .int .i64 c, .bool b⟩
def Zw.cc (op : BinOp) (x y : Nat) (b : Bool) : SE := ⟨.bin op, ch x, ch y, .bool b⟩
def Zw.fA (j : Nat) : Nat := 1005 + 2 * j
/-- What is known of two fields of the dictionary: they rise. -/
def Zw.ff (i j : Nat) : List SE := bif Nat.blt i j then [Zw.cc .lss (Zw.fA i) (Zw.fA j) true, Zw.cc .eql (Zw.fA i) (Zw.fA j) false] else bif Nat.beq i j then [Zw.cc .lss (Zw.fA i) (Zw.fA j) false, Zw.cc .eql (Zw.fA i) (Zw.fA j) true] else [Zw.cc .lss (Zw.fA i) (Zw.fA j) false, Zw.cc .eql (Zw.fA i) (Zw.fA j) false]
def Zw.cat (f : Nat → List SE) : Nat → List SE
  | 0 => []
  | n + 1 => Zw.cat f n ++ f n
def Zw.fB (x : Nat) : List SE := [Zw.cb .lss x 0 false, Zw.cb .geq x 8 false]
/-- The fields that are there. -/
def Zw.tF (k : Nat) : List SE := Zw.cat (fun i => Zw.fB (Zw.fA i) ++ Zw.cat (fun j => Zw.ff i j) k) k
/-- The key. -/
def Zw.self (x : Nat) : List SE := [Zw.cc .eql x x true, Zw.cc .neq x x false, Zw.cc .lss x x false, Zw.cc .gtr x x false]
def Zw.tK : List SE := [Zw.cb .lss 1003 0 false, Zw.cb .geq 1003 8 false, Zw.cb .geq 1003 0 true, Zw.cb .lss 1003 8 true, Zw.cb .lss 1003 24 true, ⟨.bin .add, .int .i64 0, ch 1003, ch 1003⟩, ⟨.bin .rem, ch 1003, .int .i64 4, ch 1004⟩, Zw.cb .geq 1004 0 true, Zw.cb .lss 1004 4 true] ++ (Zw.self 1003 ++ Zw.self 1004)
/-- A round: the lengths, the number, its field x. -/
def Zw.tR (b x : Nat) : List SE := [⟨.len, ch 1000, .int .i64 0, ch b⟩, ⟨.len, ch 1001, .int .i64 0, ch (b + 1)⟩, Zw.cc .lss 1002 b true, Zw.cc .lss 1002 (b + 1) true, Zw.cb .lss 1002 40 true,
  ⟨.idx 1, ch 1000, ch 1002, .pointer (some ⟨8, 0, none⟩)⟩, ⟨.idx 1, ch 1001, ch 1002, .pointer (some ⟨9, 0, none⟩)⟩, ⟨.bin .rem, ch (b + 2), .int .i64 8, ch (b + 3)⟩, ⟨.bin .add, ch (b + 3), .int .i64 8, ch (b + 4)⟩, ⟨.bin .rem, ch (b + 4), .int .i64 8, ch x⟩, ⟨.bin .add, ch 1002, .int .i64 1, ch (b + 6)⟩]
/-- A field that is not there: it would stand at p. -/
def Zw.tN (k p x : Nat) : List SE := Zw.fB x ++ (Zw.cc .eql x x true :: Zw.cc .lss x x false :: Zw.cat (fun i => [Zw.cc .lss (Zw.fA i) x (Nat.blt i p), Zw.cc .lss x (Zw.fA i) (!Nat.blt i p), Zw.cc .eql (Zw.fA i) x false, Zw.cc .eql x (Zw.fA i) false]) k)
def Zw.ne (x : Nat) : SE := Zw.cc .neq x x false
def Zw.nv (k : Nat) : List SE := Zw.cat (fun i => [Zw.ne (Zw.fA i + 1)]) k
def Zw.bb (k : Nat) : Nat := 1005 + 2 * k
/-- The round's table: p < k: the field is the p-th; else it stands at p - k. -/
def Zw.T (k p : Nat) : List SE := Zw.tK ++ (Zw.tF k ++ (Zw.nv k ++ (bif Nat.blt p k then Zw.tR (Zw.bb k) (Zw.fA p) else Zw.tR (Zw.bb k) (Zw.bb k + 5) ++ Zw.tN k (p - k) (Zw.bb k + 5))))
def Zw.fcs : Nat → List Value
  | 0 => []
  | n + 1 => Zw.fcs n ++ [ch (Zw.fA n), ch (Zw.fA n + 1)]
def Zw.zs (n : Nat) : List Value := List.replicate n (.int .i64 0)
def Zw.es : Nat → List MapEntry
  | 0 => []
  | n + 1 => Zw.es n ++ [⟨ch (Zw.fA n), ch (Zw.fA n + 1), 0⟩]
def Zw.tms : List (Nat × Value) := [(0, ch 1000), (1, ch 1001), (2, ch 1003), (8, .pointer (some ⟨10, 0, none⟩)), (9, .map (some 11)), (10, ch 1002)]
def Zw.nil : Value := .slice none 0 0
/-- The heap: 'a': the dictionaries; 'l': what lies behind them. -/
def Zw.ob (k : Nat) (a : Value) (l : List (Nat × AObj)) : List (Nat × AObj) := (10, (.row ⟨[.pointer (some ⟨12, 0, none⟩), .pointer (some ⟨13, 0, none⟩), .pointer (some ⟨14, 0, none⟩)], 3, 85, 3, false, false, false⟩)) :: (11, .lmap (Zw.es k)) :: (12, (.row ⟨[Zw.nil], 1, 132, 1, false, false, false⟩)) :: (13, (.row ⟨[Zw.nil], 1, 135, 1, false, false, false⟩)) :: (14, (.row ⟨[a], 1, 138, 1, false, false, false⟩)) :: l
def Zw.objA : List (Nat × AObj) := Zw.ob 0 Zw.nil []
def Zw.objZ : List (Nat × AObj) := Zw.ob 0 (.slice (some ⟨15, 0, some 1⟩) 0 1) [(15, .row ⟨[.int .i64 0, .int .i64 0, .int .i64 0, Zw.nil], 4, 200, 4, false, true, false⟩)]
def Zw.objN (k c : Nat) : List (Nat × AObj) := Zw.ob k (.slice (some ⟨15, 0, some 1⟩) 1 1) [(15, .row ⟨[ch 1004, .int .i64 0, ch 1003, .slice (some ⟨16, 0, some 1⟩) k c], 4, 200, 4, false, true, false⟩), (16, .row ⟨Zw.fcs k ++ Zw.zs (2 * (c - k)), 2 * c, 211, 2, false, true, false⟩)]
def Zw.i14 : List (Nat × Nat) := [(10, 10), (11, 11), (12, 12), (13, 13), (14, 14)]
/-- The nodes: k fields in room for c (0 0: no dictionary yet; 0 1: one that was emptied). -/
def Zw.dN : Nat → Nat → Nd
  | 0, 0 => ⟨85, Zw.tms ++ poison 85, 15, Zw.gr ++ Zw.objA⟩
  | 0, _ + 1 => ⟨85, Zw.tms ++ poison 85, 16, Zw.gr ++ Zw.objZ⟩
  | k + 1, c => ⟨85, Zw.tms ++ poison 85, 17, Zw.gr ++ Zw.objN (k + 1) c⟩
def Zw.rlI : Nat → Nat → List (Nat × Nat)
  | 0, 0 => Zw.i14
  | 0, _ + 1 => Zw.i14 ++ [(15, 15)]
  | _ + 1, _ => Zw.i14 ++ [(15, 15), (16, 16)]
def Zw.tE (k : Nat) : Nat → List SE
  | 0 => [⟨.len, ch 1000, .int .i64 0, ch (Zw.bb k)⟩, Zw.cc .lss 1002 (Zw.bb k) false]
  | 1 => [⟨.len, ch 1000, .int .i64 0, ch (Zw.bb k)⟩, ⟨.len, ch 1001, .int .i64 0, ch (Zw.bb k + 1)⟩, Zw.cc .lss 1002 (Zw.bb k) true, Zw.cc .lss 1002 (Zw.bb k + 1) false]
  | _ => [⟨.len, ch 1000, .int .i64 0, ch (Zw.bb k)⟩, ⟨.len, ch 1001, .int .i64 0, ch (Zw.bb k + 1)⟩, Zw.cc .lss 1002 (Zw.bb k) true, Zw.cc .lss 1002 (Zw.bb k + 1) true, Zw.cb .lss 1002 40 false]
def Zw.tS : List SE := [⟨.bin .rem, ch 1002, .int .i64 8, ch 1003⟩, ⟨.bin .add, ch 1003, .int .i64 8, ch 1004⟩, ⟨.bin .rem, ch 1004, .int .i64 8, ch 1005⟩]
def Zw.pa (fa va : Nat → Nat) : Nat → List Value
  | 0 => []
  | n + 1 => Zw.pa fa va n ++ [ch (fa n), ch (va n)]
def Zw.A5 (k : Nat) : List Value := [ch 1000, ch 1001, ch (Zw.bb k + 6), ch 1003, ch 1004]
def Zw.vA (j : Nat) : Nat := Zw.fA j + 1
def Zw.putV (k p j : Nat) : Nat := bif Nat.beq j p then Zw.bb k + 2 else Zw.vA j
def Zw.delA (f : Nat → Nat) (p j : Nat) : Nat := bif Nat.blt j p then f j else f (j + 1)
def Zw.insA (f : Nat → Nat) (x q j : Nat) : Nat := bif Nat.blt j q then f j else bif Nat.beq j q then x else f (j - 1)
def Zw.cC (k c : Nat) : Nat := bif Nat.beq k 1 then 1 else c
def Zw.cP (k c q : Nat) : Nat := bif Nat.beq k 0 then 1 else bif Nat.beq q k then (bif Nat.blt k c then c else k + 1) else k + 1
def Zw.rlP (k c q : Nat) : List (Nat × Nat) := Zw.i14 ++ (bif Nat.beq k 0 then (bif Nat.beq c 0 then [(15, 73), (16, 75)] else [(15, 15), (16, 75)]) else bif Nat.beq q k then (bif Nat.blt k c then [(15, 15), (16, 16)] else [(15, 15), (16, 99 + 7 * k)]) else [(15, 15), (16, 99 + 7 * k)])
def Zw.LS : Option Pt := leafNext (fK (Tryz.Es Tryz.m4 (syOf Zw.tS)) 100000 100000 Zw.pS (Zw.d0.st 8 []) 0) 8 (Zw.dN 0 0) [(10, 13), (11, 14), (12, 10), (13, 11), (14, 12)] [ch 1000, ch 1001, .int .i64 0, ch 1005, ch 1006]
def Zw.run (t : List SE) (k c : Nat) (b : Bool) : Option (Pt × St) := fK (Tryz.Es Tryz.m4 (syOf t)) 100000 100000 Zw.p0 ((Zw.dN k c).st 8 [[ch (Zw.bb k + 2)], [.bool b]]) 1
def Zw.LPP (k c p : Nat) : Option Pt := leafNext (Zw.run (Zw.T k p) k c false) 8 (Zw.dN k c) (Zw.rlI k c) (Zw.A5 k ++ Zw.pa Zw.fA (Zw.putV k p) k)
def Zw.LCP (k c p : Nat) : Option Pt := leafNext (Zw.run (Zw.T k p) k c true) 8 (Zw.dN (k - 1) (Zw.cC k c)) (Zw.rlI (k - 1) (Zw.cC k c)) (Zw.A5 k ++ Zw.pa (Zw.delA Zw.fA p) (Zw.delA Zw.vA p) (k - 1))
def Zw.LCA (k c q : Nat) : Option Pt := leafNext (Zw.run (Zw.T k (k + q)) k c true) 8 (Zw.dN k c) (Zw.rlI k c) (Zw.A5 k ++ Zw.pa Zw.fA Zw.vA k)
def Zw.LPA (k c q : Nat) : Option Pt := leafNext (Zw.run (Zw.T k (k + q)) k c false) 8 (Zw.dN (k + 1) (Zw.cP k c q)) (Zw.rlP k c q) (Zw.A5 k ++ Zw.pa (Zw.insA Zw.fA (Zw.bb k + 5) q) (Zw.insA Zw.vA (Zw.bb k + 2) q) (k + 1))
def Zw.hR (k c : Nat) (b : Bool) : Bool := (Zw.dN k c).sub 8 [[ch (Zw.bb k + 2)], [.bool b]] (idl 8 (Zw.dN k c).objs) (idA (5 + 2 * k)) ((Zw.dN k c).st 8 [])
def Zw.hE (k c : Nat) : Bool := (Zw.dN k c).sub 8 [] (idl 8 (Zw.dN k c).objs) (idA (5 + 2 * k)) ((Zw.dN k c).st 8 [])
def Zw.fE (k c e : Nat) : Bool := leafFin (Tryz.Es Tryz.m4 (syOf (Zw.tE k e))) Tryz.f3 (fK (Tryz.Es Tryz.m4 (syOf (Zw.tE k e))) 100000 100000 Zw.p0 ((Zw.dN k c).st 8 []) 100)
def Zw.cf (k c : Nat) : Nat → Bool
  | 0 => Zw.hR k c false
  | 1 => Zw.hR k c true
  | 2 => Zw.hE k c
  | 3 => Zw.fE k c 0
  | 4 => Zw.fE k c 1
  | _ => Zw.fE k c 2
end
theorem Zw.rep {α : Type} {f : Nat → α} {v : α} {N : Nat} (h : (List.range N).map f = List.replicate N v) (x : Nat) (hx : x < N) : f x = v := by
  have h1 : ((List.range N).map f)[x]? = some (f x) := by simp [hx]
  rw [h] at h1
  simp [hx] at h1
  exact h1.symm
end Go.Proofs
