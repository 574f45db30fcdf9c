/- The law's nodes: so many names; the tables of what is known of its atoms; the functions that are taken by contract. No conditions. -/
import Derived.Test.YtfahjdpepgedpaaGreatDoorVGlue
import Derived.Test.YtfahjdpepgedpaaGreatDoorVStrP3
import Derived.Test.YtfahjdpepgedpaaGreatDoorVSeatRun3
import Derived.Test.YtfahjdpepgedpaaGreatDoorVSeatLayS
set_option linter.all false
namespace Go.Proofs
open Go Go.Vsx
set_option maxRecDepth 1000000
noncomputable section
theorem Zw.ft : (genPT 12 (fun f => Tryz.prog.funcs[f]?)).get 3 = some Tryz.f3 := by kernel_rfl
theorem Zw.envF (m : List (Nat × PrimK)) (sy : PT (List SE)) : EnvF Tryz.prog (Tryz.Es m sy) 8 := by
  have := mkEnvS_fn (P := Tryz.prog) Tryz.ext (ptOf (m ++ Tryz.primL)) sy Tryz.chk
  rw [Tryz.nglob] at this; exact this
def Zw.gr : List (Nat × AObj) := [(1, (.row ⟨[(ch 1)], 1, 0, 1, true, false, false⟩)), (2, (.row ⟨[(ch 2)], 1, 0, 1, true, false, false⟩))]
noncomputable def Zw.pS : Pt := ptStart Tryz.f3
theorem Zw.kS (m : List (Nat × PrimK)) (sy : PT (List SE)) : okPt (Tryz.Es m sy) 8 Zw.pS = true := okPt_start (Zw.envF m sy) Zw.ft
noncomputable def Zw.p0 : Pt := ptOfBlock 0 Tryz.f3
theorem Zw.k0 (m : List (Nat × PrimK)) (sy : PT (List SE)) : okPt (Tryz.Es m sy) 8 Zw.p0 = true := okPt_block (Zw.envF m sy) Zw.ft 0
def Zw.d0 : Nd := ⟨151, [(0, ch 1000), (1, ch 1001)], 9, Zw.gr ++ []⟩
/-- The number of a name: the library's functions that it calls. -/
def Zw.nS : List (Nat × PrimK) := [(112, .itoa), (113, .rep), (97, .atoi2 308)]
def Zw.sL : List (Nat × PrimK) := [(43, .frontX), (166, .sorted1 9 [213, 234])]
def Zw.mS : List (Nat × PrimK) := Tryz.m3 ++ Zw.sL
def Zw.cb (op : BinOp) (x : Nat) (c : Int) (b : Bool) : SE := ⟨.bin op, ch x, .int .i64 c, .bool b⟩
def Zw.cc (op : BinOp) (x y : Nat) (b : Bool) : SE := ⟨.bin op, ch x, ch y, .bool b⟩
def Zw.xs : Value := .string ⟨#[120]⟩
def Zw.em : Value := .string ⟨#[]⟩
def Zw.cat (f : Nat → List SE) : Nat → List SE
  | 0 => []
  | n + 1 => Zw.cat f n ++ f n
def Zw.sA (r : Nat) : Nat := 1003 + r
def Zw.lA (n r : Nat) : Nat := 1003 + n + r
def Zw.bb (n : Nat) : Nat := 1003 + 2 * n
/-- What is known of two names of which the first has the place i, the second the place j, by rising names. -/
def Zw.sg (i j : Nat) : Int := bif Nat.blt i j then -1 else bif Nat.beq i j then 0 else 1
def Zw.pr (x y i j : Nat) : List SE := [⟨.scmp, ch x, ch y, .int .i64 (Zw.sg i j)⟩, ⟨.sbin .eql, ch x, ch y, .bool (Nat.beq i j)⟩]
def Zw.tR (b x : Nat) : List SE := [⟨.len, ch 1000, .int .i64 0, ch b⟩, Zw.cc .lss 1002 b true, Zw.cb .lss 1002 8 true, ⟨.idx 1, ch 1000, ch 1002, .pointer (some ⟨8, 0, none⟩)⟩,
  ⟨.slen, ch (b + 1), .int .i64 0, ch (b + 2)⟩, ⟨.mn, ch (b + 2), .int .i64 10, ch (b + 3)⟩, ⟨.sto, ch (b + 1), ch (b + 3), ch (b + 4)⟩, ⟨.sbin .add, Zw.xs, ch (b + 4), ch x⟩, ⟨.slen, ch x, .int .i64 0, ch (b + 6)⟩, ⟨.sbin .eql, ch x, Zw.em, .bool false⟩, Zw.cb .gtr (b + 6) 40 false, ⟨.bin .add, ch 1002, .int .i64 1, ch (b + 7)⟩]
def Zw.pA (n p x : Nat) : Nat := bif Nat.blt p n then Zw.sA p else x
/-- A round: p < n: the name is the p-th; else it would stand at p - n (places are doubled: a new name lies between two). -/
def Zw.T (n p : Nat) : List SE := bif Nat.blt p n then Zw.tR (Zw.bb n) (Zw.sA p) ++ Zw.cat (fun i => Zw.pr (Zw.sA i) (Zw.sA p) i p ++ bif Nat.beq i p then [] else Zw.pr (Zw.sA p) (Zw.sA i) p i) n
  else Zw.tR (Zw.bb n) (Zw.bb n + 5) ++ Zw.cat (fun i => Zw.pr (Zw.sA i) (Zw.bb n + 5) (2 * i + 1) (2 * (p - n)) ++ Zw.pr (Zw.bb n + 5) (Zw.sA i) (2 * (p - n)) (2 * i + 1)) n
def Zw.es : Nat → List MapEntry
  | 0 => []
  | n + 1 => Zw.es n ++ [⟨ch (Zw.sA n), .bool true, 0⟩]
def Zw.os : Nat → List Value
  | 0 => []
  | n + 1 => Zw.os n ++ [ch (Zw.sA n), .slice (some ⟨16 + n, 0, some 1⟩) 1 1]
def Zw.ls (n : Nat) : Nat → List Value
  | 0 => []
  | k + 1 => Zw.ls n k ++ [ch (Zw.lA n k)]
def Zw.bs : Nat → List (Nat × AObj)
  | 0 => []
  | n + 1 => Zw.bs n ++ [(16 + n, .row ⟨[.int .u8 98], 1, 5, 1, false, true, false⟩)]
def Zw.sl (b : Nat) : Nat → Value
  | 0 => .slice none 0 0
  | n + 1 => .slice (some ⟨b, 0, some 1⟩) (n + 1) (n + 1)
def Zw.tms (n : Nat) : List (Nat × Value) := [(0, ch 1000), (1, ch 1001), (6, .pointer (some ⟨9, 0, none⟩)), (7, .pointer (some ⟨12, 0, none⟩)), (8, .map (some 13)), (9, Zw.sl 15 n), (10, ch 1002)]
def Zw.objN (n : Nat) : List (Nat × AObj) := (9, (.row ⟨[Zw.sl 14 n, .int .i64 0], 2, 87, 2, false, false, false⟩)) :: (10, .map [] 0) :: (11, (.row ⟨[.map (some 10)], 1, 173, 1, false, false, false⟩)) ::
  (12, (.row ⟨[.pointer (some ⟨9, 0, none⟩), .int .i64 1, .slice none 0 0, .pointer (some ⟨11, 0, none⟩), .slice none 0 0], 5, 90, 5, false, false, false⟩)) :: (13, .lmap (Zw.es n)) ::
  (bif Nat.beq n 0 then [] else (14, (.row ⟨Zw.os n, 2 * n, 99, 2, false, true, false⟩)) :: (15, (.row ⟨Zw.ls n n, n, 9, 1, false, true, false⟩)) :: Zw.bs n)
def Zw.cL (n i : Nat) : Nat := Zw.bb n + 3 + i
/-- The end: why the loop ends; which of the names is chosen (the j-th to come, the r-th by rising names). -/
def Zw.tX (n : Nat) : Nat → List SE
  | 0 => [⟨.len, ch 1000, .int .i64 0, ch (Zw.bb n)⟩, Zw.cc .lss 1002 (Zw.bb n) false]
  | _ => [⟨.len, ch 1000, .int .i64 0, ch (Zw.bb n)⟩, Zw.cc .lss 1002 (Zw.bb n) true, Zw.cb .lss 1002 8 false]
def Zw.tJ (n j : Nat) : List SE := [⟨.bin .rem, ch 1001, .int .i64 (Int.ofNat n), ch (Zw.bb n + 1)⟩, ⟨.bin .add, ch (Zw.bb n + 1), .int .i64 (Int.ofNat n), ch (Zw.bb n + 2)⟩, ⟨.bin .rem, ch (Zw.bb n + 2), .int .i64 (Int.ofNat n), .int .i64 (Int.ofNat j)⟩, ⟨.atoi, ch (Zw.lA n j), .int .i64 0, .chan none⟩]
def Zw.tS (n i : Nat) : List SE := [⟨.slen, ch (Zw.sA i), .int .i64 0, ch (Zw.cL n i)⟩, Zw.cb .geq (Zw.cL n i) 0 true, ⟨.sto, ch (Zw.sA i), .int .i64 0, Zw.em⟩, ⟨.sto, ch (Zw.sA i), .int .i64 1, Zw.xs⟩, ⟨.atoi, ch (Zw.sA i), .int .i64 0, .chan none⟩]
def Zw.TE (n e j r : Nat) : List SE := Zw.tX n e ++ bif Nat.beq n 0 then [] else (Zw.tJ n j ++ Zw.cat (fun i => Zw.tS n i ++ (Zw.pr (Zw.sA i) (Zw.lA n j) i r ++ (Zw.pr (Zw.lA n j) (Zw.sA i) r i ++ Zw.cat (fun k => Zw.pr (Zw.sA i) (Zw.sA k) i k) n))) n)
def Zw.xq : Nat → List Nat
  | 0 => [20]
  | 1 => [25, 24]
  | 2 => [27, 27, 25]
  | 3 => [28, 28, 28, 27]
  | 4 => [30, 30, 29, 29, 28]
  | 5 => [31, 31, 30, 31, 31, 29]
  | 6 => [32, 32, 32, 32, 32, 32, 30]
  | _ => [33, 33, 33, 33, 33, 33, 33, 32]
/-- Where the new list lies, once a name was put in at q. -/
def Zw.xb (n q : Nat) : Nat := (Zw.xq n).getD q 0
def Zw.insA (f : Nat → Nat) (x q j : Nat) : Nat := bif Nat.blt j q then f j else bif Nat.beq j q then x else f (j - 1)
def Zw.i13 : List (Nat × Nat) := [(9, 9), (10, 10), (11, 11), (12, 12), (13, 13)]
def Zw.dN (n : Nat) : Nd := ⟨151, Zw.tms n ++ poison 151, bif Nat.beq n 0 then 14 else 16 + n, Zw.gr ++ Zw.objN n⟩
def Zw.rlI (n : Nat) : List (Nat × Nat) := Zw.i13 ++ (bif Nat.beq n 0 then [] else (14, 14) :: (15, 15) :: (List.range n).map fun r => (16 + r, 16 + r))
def Zw.rlP (n q : Nat) : List (Nat × Nat) := Zw.i13 ++ ((14, Zw.xb n q - 2) :: (15, Zw.xb n q) :: (List.range (n + 1)).map fun r => (16 + r, Zw.insA (fun j => 16 + j) (Zw.xb n q - 4) q r))
def Zw.pa (f : Nat → Nat) : Nat → List Value
  | 0 => []
  | n + 1 => Zw.pa f n ++ [ch (f n)]
def Zw.A3 (n : Nat) : List Value := [ch 1000, ch 1001, ch (Zw.bb n + 7)]
def Zw.lP (n j : Nat) : Nat := bif Nat.blt j n then Zw.lA n j else Zw.bb n + 5
def Zw.LS : Option Pt := leafNext (fK (Tryz.Es Zw.mS (syOf [])) 100000 100000 Zw.pS (Zw.d0.st 8 []) 0) 8 (Zw.dN 0) [(9, 9), (10, 10), (11, 11), (12, 12), (13, 13)] [ch 1000, ch 1001, .int .i64 0]
def Zw.run (n p : Nat) : Option (Pt × St) := fK (Tryz.Es Zw.mS (syOf (Zw.T n p))) 100000 100000 Zw.p0 ((Zw.dN n).st 8 [[ch (Zw.bb n + 1)]]) 1
def Zw.LI (n p : Nat) : Option Pt := leafNext (Zw.run n p) 8 (Zw.dN n) (Zw.rlI n) (Zw.A3 n ++ (Zw.pa Zw.sA n ++ Zw.pa (Zw.lA n) n))
def Zw.LP (n q : Nat) : Option Pt := leafNext (Zw.run n (n + q)) 8 (Zw.dN (n + 1)) (Zw.rlP n q) (Zw.A3 n ++ (Zw.pa (Zw.insA Zw.sA (Zw.bb n + 5) q) (n + 1) ++ Zw.pa (Zw.lP n) (n + 1)))
def Zw.hR (n : Nat) : Bool := (Zw.dN n).sub 8 [[ch (Zw.bb n + 1)]] (idl 8 (Zw.dN n).objs) (idA (3 + 2 * n)) ((Zw.dN n).st 8 [])
def Zw.hE (n : Nat) : Bool := (Zw.dN n).sub 8 [] (idl 8 (Zw.dN n).objs) (idA (3 + 2 * n)) ((Zw.dN n).st 8 [])
def Zw.fE (n e j r : Nat) : Bool := leafFin (Tryz.Es Zw.mS (syOf (Zw.TE n e j r))) Tryz.f3 (fK (Tryz.Es Zw.mS (syOf (Zw.TE n e j r))) 100000 100000 Zw.p0 ((Zw.dN n).st 8 []) 100)
def Zw.nB (e : Bool) : List SE := [⟨.slen, ch 1000, .int .i64 0, ch 1001⟩, Zw.cb .lss 1001 1 false, ⟨.sfrom, ch 1000, .int .i64 1, ch 1002⟩, ⟨.atoi, ch 1002, .int .i64 0, ch 1003⟩, ⟨.aerr, ch 1002, .int .i64 0, .bool e⟩]
def Zw.z48 (k : Nat) : Value := .string ⟨(99 :: List.replicate (5 - k) 48).toArray⟩
/-- What is known of a string behind an 'x': no number; none above nought; one of too many digits; one of k digits. -/
def Zw.nT : Nat → List SE
  | 0 => Zw.nB true
  | 1 => Zw.nB false ++ [Zw.cb .lss 1003 1 true]
  | 2 => Zw.nB false ++ [Zw.cb .lss 1003 1 false, Zw.cb .gtr 1003 99999 true, ⟨.sbin .neq, Zw.em, ch 1000, .bool true⟩]
  | k + 3 => Zw.nB false ++ [Zw.cb .lss 1003 1 false, Zw.cb .gtr 1003 99999 false, ⟨.itoa, ch 1003, .int .i64 0, ch 1004⟩, ⟨.slen, ch 1004, .int .i64 0, .int .i64 (Int.ofNat (k + 1))⟩, ⟨.sbin .add, Zw.z48 (k + 1), ch 1004, ch 1005⟩, ⟨.sbin .neq, ch 1005, ch 1000, .bool true⟩]
def Zw.fN (k : Nat) : Bool := answersI (fCall (Tryz.Es Zw.nS (syOf (Zw.nT k))) 100000 43 [ch 1000] Tryz.H0) 0
end
/-- What the law's calls of the library ask of its package variables. -/
structure Zw.Need (W : World) : Prop where
  tab : Lib.TabIs Tryz.prog W "internal/strconv.uint64pow10" .u64 Lib.pow10Tab
  e1 : ∃ te pe, W.cell? ⟨Tryz.laysC172_ren.g 15, 0, none⟩ = some (.iface te pe)
  e2 : ∃ te pe, W.cell? ⟨Tryz.laysC172_ren.g 16, 0, none⟩ = some (.iface te pe)
theorem Zw.Need.on {W w : World} (h : Zw.Need W) (hb : RowKit.Below W.heap.size W w) : Zw.Need w := by
  obtain ⟨a, ⟨t1, p1, e1⟩, ⟨t2, p2, e2⟩⟩ := h
  exact ⟨Lib.tabBelow_of_tabIs a w hb, ⟨t1, p1, by rw [hb.cell (World.block_lt_of_cell? _ _ e1)]; exact e1⟩, ⟨t2, p2, by rw [hb.cell (World.block_lt_of_cell? _ _ e2)]; exact e2⟩⟩
theorem Zw.Need.globs {W : World} (h : Zw.Need W) : Globs W 8 Tryz.gsL Tryz.gtL := by
  obtain ⟨_, ⟨t1, p1, e1⟩, ⟨t2, p2, e2⟩⟩ := h
  constructor
  · intro g hg
    simp only [Tryz.gsL, List.mem_cons, List.mem_nil_iff, or_false] at hg
    rcases hg with rfl | rfl
    · exact ⟨by decide, _, e1, rfl⟩
    · exact ⟨by decide, _, e2, rfl⟩
  · intro x hx
    simp only [Tryz.gtL, List.mem_nil_iff] at hx
theorem Zw.rightN (sy : PT (List SE)) (mu : Mu) (W : World) (htab : Zw.Need W) (hy : SymOk (Tryz.Es Zw.nS sy) mu) : Right Tryz.prog (Tryz.Es Zw.nS sy) (lawG 8 Tryz.H0 W mu) := by
  refine right_of Tryz.nglob (by kernel_rfl) Tryz.extOk Tryz.chk (prim_of rfl fun x hx => ?_) hy
  rcases List.mem_append.1 hx with h | h
  · simp only [Zw.nS, List.mem_cons, List.mem_nil_iff, or_false] at h
    rcases h with rfl | rfl | rfl
    · exact itoa_fits ⟨Tryz.f112, Tryz.func112, by kernel_rfl, by kernel_rfl⟩ Tryz.laysM171 (by kernel_rfl) hy htab.tab
    · exact rep_fits ⟨Tryz.f113, Tryz.func113, by kernel_rfl, by kernel_rfl⟩ Tryz.lays105 Tryz.Builder_Extra_105 (by kernel_rfl) hy
    · exact atoi2_fits ⟨Tryz.f97, Tryz.func97, by kernel_rfl, by kernel_rfl⟩ Tryz.laysC172 (by kernel_rfl) (by kernel_rfl) hy htab.e1 htab.e2
  · exact Tryz.primsOk x h
theorem Zw.sorted1 (sy : PT (List SE)) (G : GS) (hy : SymOk (Tryz.Es Zw.mS sy) G.m0) : PrimFits Tryz.prog (Tryz.Es Zw.mS sy) G 166 (.sorted1 9 [213, 234]) :=
  sorted1_fits (ρs := Tryz.sortedA_ren) hy ⟨Tryz.f166, Tryz.func166, by kernel_rfl, by kernel_rfl⟩ (by kernel_rfl) (by kernel_rfl) (l := [Tryz.keys213_ren, Tryz.keys234_ren]) (by
    intro r hr
    simp only [List.mem_cons, List.mem_nil_iff, or_false] at hr
    rcases hr with rfl | rfl
    · exact Tryz.srt213
    · exact Tryz.srt234
    )
theorem Zw.rep_ {α : Type} {f : Nat → α} {v : α} {N : Nat} (h : (List.range N).map f = List.replicate N v) (x : Nat) (hx : x < N) : f x = v := by
  have h1 : ((List.range N).map f)[x]? = some (f x) := by simp [hx]
  rw [h] at h1
  simp [hx] at h1
  exact h1.symm
end Go.Proofs
