/- The law's nodes: states at its loops' heads. No conditions. -/
import Derived.Test.YtjfjhmdhchjjdaaGreatDoorVGlue
import Derived.Test.YtjfjhmdhchjjdaaGreatDoorVSeatRun3
set_option linter.all false
namespace Go.Proofs
open Go Go.Vsx
set_option maxRecDepth 1000000
noncomputable section
theorem Zw.ft : (genPT 12 (fun f => Tryz.prog.funcs[f]?)).get 4 = some Tryz.f4 := by kernel_rfl
theorem Zw.envF (m : List (Nat × PrimK)) (sy : PT (List SE)) : EnvF Tryz.prog (Tryz.Es m sy) 8 := by
  have := mkEnvS_fn (P := Tryz.prog) Tryz.ext (ptOf (m ++ Tryz.primL)) sy Tryz.chk
  rw [Tryz.nglob] at this; exact this
noncomputable def Zw.gr : List (Nat × AObj) := [(1, (.row ⟨[(ch 1)], 1, 0, 1, true, false, false⟩)), (2, (.row ⟨[(ch 2)], 1, 0, 1, true, false, false⟩)), (3, (.row ⟨[(.int .u64 1), (.int .u64 10), (.int .u64 100), (.int .u64 1000), (.int .u64 10000), (.int .u64 100000), (.int .u64 1000000), (.int .u64 10000000), (.int .u64 100000000), (.int .u64 1000000000), (.int .u64 10000000000), (.int .u64 100000000000), (.int .u64 1000000000000), (.int .u64 10000000000000), (.int .u64 100000000000000), (.int .u64 1000000000000000), (.int .u64 10000000000000000), (.int .u64 100000000000000000), (.int .u64 1000000000000000000), (.int .u64 10000000000000000000)], 20, 0, 1, true, false, false⟩)), (6, (.row ⟨[(.int .u8 0), (.int .u8 1), (.int .u8 28), (.int .u8 2), (.int .u8 29), (.int .u8 14), (.int .u8 24), (.int .u8 3), (.int .u8 30), (.int .u8 22), (.int .u8 20), (.int .u8 15), (.int .u8 25), (.int .u8 17), (.int .u8 4), (.int .u8 8), (.int .u8 31), (.int .u8 27), (.int .u8 13), (.int .u8 23), (.int .u8 21), (.int .u8 19), (.int .u8 16), (.int .u8 7), (.int .u8 26), (.int .u8 12), (.int .u8 18), (.int .u8 6), (.int .u8 11), (.int .u8 5), (.int .u8 10), (.int .u8 9)], 32, 0, 1, true, false, false⟩)), (7, (.row ⟨[(.int .u8 0), (.int .u8 1), (.int .u8 56), (.int .u8 2), (.int .u8 57), (.int .u8 49), (.int .u8 28), (.int .u8 3), (.int .u8 61), (.int .u8 58), (.int .u8 42), (.int .u8 50), (.int .u8 38), (.int .u8 29), (.int .u8 17), (.int .u8 4), (.int .u8 62), (.int .u8 47), (.int .u8 59), (.int .u8 36), (.int .u8 45), (.int .u8 43), (.int .u8 51), (.int .u8 22), (.int .u8 53), (.int .u8 39), (.int .u8 33), (.int .u8 30), (.int .u8 24), (.int .u8 18), (.int .u8 12), (.int .u8 5), (.int .u8 63), (.int .u8 55), (.int .u8 48), (.int .u8 27), (.int .u8 60), (.int .u8 41), (.int .u8 37), (.int .u8 16), (.int .u8 46), (.int .u8 35), (.int .u8 44), (.int .u8 21), (.int .u8 52), (.int .u8 32), (.int .u8 23), (.int .u8 11), (.int .u8 54), (.int .u8 26), (.int .u8 40), (.int .u8 15), (.int .u8 34), (.int .u8 20), (.int .u8 31), (.int .u8 10), (.int .u8 25), (.int .u8 14), (.int .u8 19), (.int .u8 9), (.int .u8 13), (.int .u8 8), (.int .u8 7), (.int .u8 6)], 64, 0, 1, true, false, false⟩))]
noncomputable def Zw.pS : Pt := ptStart Tryz.f4
theorem Zw.kS (m : List (Nat × PrimK)) (sy : PT (List SE)) : okPt (Tryz.Es m sy) 8 Zw.pS = true := okPt_start (Zw.envF m sy) Zw.ft
noncomputable def Zw.d0 : Nd := ⟨70, [(0, (ch 1000)), (1, (ch 1001))], 10, Zw.gr ++ []⟩
end
end Go.Proofs
