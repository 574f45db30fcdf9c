/- The law. -/
import Derived.Test.YtbbndocaocmgeaaGreatDoorVSeatRun2
set_option linter.all false
namespace Go.Proofs
open Go Go.Vsx
set_option maxRecDepth 1000000
noncomputable section
def Tryz.m3 : List (Nat × PrimK) := [(15, .memo (.bool true))]
def Tryz.E3 : Go.Vsx.Env := mkEnv Tryz.prog Tryz.ext (ptOf (Tryz.m3 ++ Tryz.primL))
theorem Tryz.ok3 (n : Nat) : CallOk Tryz.prog Tryz.G (callE Tryz.E3 (execC Tryz.E3 n)) := Tryz.callOk Tryz.m3 (fun x hx => by
  simp only [Tryz.m3, List.mem_cons, List.mem_nil_iff, or_false] at hx
  subst hx; exact Tryz.fits15) n
theorem Tryz.run3 : answers (fCall Tryz.E3 100000 3 [] (firstHeap 8 Tryz.gsL)) true = true := by kernel_rfl
end
end Go.Proofs
