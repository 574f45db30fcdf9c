/- A closed part of what the law runs, answered by the executor. No conditions. -/
import Derived.Test.YtloklkmkpahnlaaGreatDoorVSeatRun1
set_option linter.all false
namespace Go.Proofs
open Go Go.Vsx
set_option maxRecDepth 1000000
noncomputable section
theorem Tryz.run105 : answers (fCall Tryz.E1 100000 105 [] (firstHeap 8 Tryz.gsL)) true = true := by kernel_rfl
theorem Tryz.fits105 {E : Go.Vsx.Env} : PrimFits Tryz.prog E Tryz.G 105 (.memo (.bool true)) := by
  obtain ⟨H1, h⟩ := of_answers Tryz.run105
  exact memo_fits Tryz.func105 (by kernel_rfl) (by kernel_rfl) (firstHeap_ro _ _) (Tryz.ok1 _) h rfl
def Tryz.m2 : List (Nat × PrimK) := [(105, .memo (.bool true))]
def Tryz.E2 : Go.Vsx.Env := mkEnv Tryz.prog Tryz.ext (ptOf (Tryz.m2 ++ Tryz.primL))
theorem Tryz.ok2 (n : Nat) : CallOk Tryz.prog Tryz.G (callE Tryz.E2 (execC Tryz.E2 n)) := Tryz.callOk Tryz.m2 (fun x hx => by
  simp only [Tryz.m2, List.mem_cons, List.mem_nil_iff, or_false] at hx
  subst hx; exact Tryz.fits105) n
end
end Go.Proofs
