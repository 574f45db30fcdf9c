/- The law's nodes: states at its loops' heads. No conditions. -/
import Derived.Test.YtjmfbhlanjhnfaaGreatDoorVGlue
import Derived.Test.YtjmfbhlanjhnfaaGreatDoorVSeatRun4
set_option linter.all false
namespace Go.Proofs
open Go Go.Vsx
set_option maxRecDepth 1000000
noncomputable section
theorem Zw.ft : (genPT 12 (fun f => Tryz.prog.funcs[f]?)).get 3 = some Tryz.f3 := by kernel_rfl
theorem Zw.envF (m : List (Nat × PrimK)) (sy : PT (List SE)) : EnvF Tryz.prog (Tryz.Es m sy) 8 := by
  have := mkEnvS_fn (P := Tryz.prog) Tryz.ext (ptOf (m ++ Tryz.primL)) sy Tryz.chk
  rw [Tryz.nglob] at this; exact this
noncomputable def Zw.gr : List (Nat × AObj) := [(0, (.row ⟨[(ch 0)], 1, 0, 1, true, false, false⟩)), (1, (.row ⟨[(ch 1)], 1, 0, 1, true, false, false⟩))]
noncomputable def Zw.pS : Pt := ptStart Tryz.f3
theorem Zw.kS (m : List (Nat × PrimK)) (sy : PT (List SE)) : okPt (Tryz.Es m sy) 8 Zw.pS = true := okPt_start (Zw.envF m sy) Zw.ft
noncomputable def Zw.d0 : Nd := ⟨93, [(0, (ch 1000)), (1, (ch 1001))], 12, Zw.gr ++ []⟩
end
end Go.Proofs
