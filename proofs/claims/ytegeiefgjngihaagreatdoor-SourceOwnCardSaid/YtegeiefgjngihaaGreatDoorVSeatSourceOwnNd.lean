/- The law's nodes: states at its loops' heads. No conditions. -/
import Derived.Test.YtegeiefgjngihaaGreatDoorVGlue
import Derived.Test.YtegeiefgjngihaaGreatDoorVSeatRun4
set_option linter.all false
namespace Go.Proofs
open Go Go.Vsx
set_option maxRecDepth 1000000
noncomputable section
theorem Zw.ft : (genPT 12 (fun f => Tryz.prog.funcs[f]?)).get 3 = some Tryz.f3 := by kernel_rfl
theorem Zw.envF (m : List (Nat × PrimK)) (sy : PT (List SE)) : EnvF Tryz.prog (Tryz.Es m sy) 8 := by
  have := mkEnvS_fn (P := Tryz.prog) Tryz.ext (ptOf (m ++ Tryz.primL)) sy Tryz.chk
  rw [Tryz.nglob] at this; exact this
noncomputable def Zw.chR (a n : Nat) : List Value := (List.range' a n).map fun i => .chan (some i)
def Zw.sg (a : Nat) : SE := ⟨.bin .geq, .chan (some a), .int .i64 0, .bool true⟩
def Zw.sl (a : Nat) (c : Int) : SE := ⟨.bin .lss, .chan (some a), .int .i64 c, .bool true⟩
theorem Zw.hg {m : Mu} {a : Nat} {x : Int} (h : m.at_ a = some (.int .i64 x)) (q : 0 ≤ x) : SymHolds m (.bin .geq) (.chan (some a)) (.int .i64 0) (.bool true) := hold_bool (.atom _ _ h) (.int _ _) (op_geq_t q)
theorem Zw.hl {m : Mu} {a : Nat} {x c : Int} (h : m.at_ a = some (.int .i64 x)) (q : x < c) : SymHolds m (.bin .lss) (.chan (some a)) (.int .i64 c) (.bool true) := hold_bool (.atom _ _ h) (.int _ _) (op_lss_t q)
noncomputable def Zw.gr : List (Nat × AObj) := [(0, (.row ⟨[(ch 0)], 1, 0, 1, true, false, false⟩)), (1, (.row ⟨[(ch 1)], 1, 0, 1, true, false, false⟩))]
noncomputable def Zw.pS : Pt := ptStart Tryz.f3
theorem Zw.kS (m : List (Nat × PrimK)) (sy : PT (List SE)) : okPt (Tryz.Es m sy) 8 Zw.pS = true := okPt_start (Zw.envF m sy) Zw.ft
noncomputable def Zw.p0 : Pt := ptOfBlock 0 Tryz.f3
theorem Zw.k0 (m : List (Nat × PrimK)) (sy : PT (List SE)) : okPt (Tryz.Es m sy) 8 Zw.p0 = true := okPt_block (Zw.envF m sy) Zw.ft 0
noncomputable def Zw.d0 : Nd := ⟨79, [(0, (ch 1000))], 10, Zw.gr ++ []⟩
noncomputable def Zw.d1 : Nd := ⟨79, [(0, (ch 1000)), (4, (.slice (some ⟨10, 0, none⟩) 2 2)), (5, (ch 1001))] ++ poison 79, 11, Zw.gr ++ [(10, (.row ⟨[(.int .i64 1), (.int .i64 0), (.int .i64 7), (.int .i64 2), (.int .i64 0), (.int .i64 8)], 6, 25, 3, false, false, false⟩))]⟩
noncomputable def Zw.d2 : Nd := ⟨79, [(0, (ch 1000)), (4, (.slice (some ⟨10, 0, some 1⟩) 3 3)), (5, (ch 1001))] ++ poison 79, 11, Zw.gr ++ [(10, (.row ⟨[(.int .i64 1), (.int .i64 0), (.int .i64 7), (.int .i64 2), (.int .i64 0), (.int .i64 8), (ch 1002), (ch 1003), (ch 1004)], 9, 25, 3, false, true, false⟩))]⟩
noncomputable def Zw.d3 : Nd := ⟨79, [(0, (ch 1000)), (4, (.slice (some ⟨10, 0, some 1⟩) 4 4)), (5, (ch 1001))] ++ poison 79, 11, Zw.gr ++ [(10, (.row ⟨([(.int .i64 1), (.int .i64 0), (.int .i64 7), (.int .i64 2), (.int .i64 0), (.int .i64 8)] ++ Zw.chR 1002 6), 12, 25, 3, false, true, false⟩))]⟩
noncomputable def Zw.d4 : Nd := ⟨79, [(0, (ch 1000)), (4, (.slice (some ⟨10, 0, some 1⟩) 5 5)), (5, (ch 1001))] ++ poison 79, 11, Zw.gr ++ [(10, (.row ⟨([(.int .i64 1), (.int .i64 0), (.int .i64 7), (.int .i64 2), (.int .i64 0), (.int .i64 8)] ++ Zw.chR 1002 9), 15, 25, 3, false, true, false⟩))]⟩
noncomputable def Zw.d5 : Nd := ⟨79, [(0, (ch 1000)), (4, (.slice (some ⟨10, 0, some 1⟩) 6 6)), (5, (ch 1001))] ++ poison 79, 11, Zw.gr ++ [(10, (.row ⟨([(.int .i64 1), (.int .i64 0), (.int .i64 7), (.int .i64 2), (.int .i64 0), (.int .i64 8)] ++ Zw.chR 1002 12), 18, 25, 3, false, true, false⟩))]⟩
noncomputable def Zw.d6 : Nd := ⟨79, [(0, (ch 1000)), (4, (.slice (some ⟨10, 0, some 1⟩) 7 7)), (5, (ch 1001))] ++ poison 79, 11, Zw.gr ++ [(10, (.row ⟨([(.int .i64 1), (.int .i64 0), (.int .i64 7), (.int .i64 2), (.int .i64 0), (.int .i64 8)] ++ Zw.chR 1002 15), 21, 25, 3, false, true, false⟩))]⟩
noncomputable def Zw.d7 : Nd := ⟨79, [(0, (ch 1000)), (4, (.slice (some ⟨10, 0, some 1⟩) 8 8)), (5, (ch 1001))] ++ poison 79, 11, Zw.gr ++ [(10, (.row ⟨([(.int .i64 1), (.int .i64 0), (.int .i64 7), (.int .i64 2), (.int .i64 0), (.int .i64 8)] ++ Zw.chR 1002 18), 24, 25, 3, false, true, false⟩))]⟩
noncomputable def Zw.d8 : Nd := ⟨79, [(0, (ch 1000)), (4, (.slice (some ⟨10, 0, some 1⟩) 9 9)), (5, (ch 1001))] ++ poison 79, 11, Zw.gr ++ [(10, (.row ⟨([(.int .i64 1), (.int .i64 0), (.int .i64 7), (.int .i64 2), (.int .i64 0), (.int .i64 8)] ++ Zw.chR 1002 21), 27, 25, 3, false, true, false⟩))]⟩
noncomputable def Zw.d9 : Nd := ⟨79, [(0, (ch 1000)), (4, (.slice (some ⟨10, 0, some 1⟩) 10 10)), (5, (ch 1001))] ++ poison 79, 11, Zw.gr ++ [(10, (.row ⟨([(.int .i64 1), (.int .i64 0), (.int .i64 7), (.int .i64 2), (.int .i64 0), (.int .i64 8)] ++ Zw.chR 1002 24), 30, 25, 3, false, true, false⟩))]⟩
noncomputable def Zw.d10 : Nd := ⟨79, [(0, (ch 1000)), (4, (.slice (some ⟨10, 0, some 1⟩) 11 11)), (5, (ch 1001))] ++ poison 79, 11, Zw.gr ++ [(10, (.row ⟨([(.int .i64 1), (.int .i64 0), (.int .i64 7), (.int .i64 2), (.int .i64 0), (.int .i64 8)] ++ Zw.chR 1002 27), 33, 25, 3, false, true, false⟩))]⟩
noncomputable def Zw.d11 : Nd := ⟨79, [(0, (ch 1000)), (4, (.slice (some ⟨10, 0, some 1⟩) 12 12)), (5, (ch 1001))] ++ poison 79, 11, Zw.gr ++ [(10, (.row ⟨([(.int .i64 1), (.int .i64 0), (.int .i64 7), (.int .i64 2), (.int .i64 0), (.int .i64 8)] ++ Zw.chR 1002 30), 36, 25, 3, false, true, false⟩))]⟩
end
end Go.Proofs

