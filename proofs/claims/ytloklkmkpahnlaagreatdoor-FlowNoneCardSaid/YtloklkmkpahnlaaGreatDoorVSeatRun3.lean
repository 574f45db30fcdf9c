/- A closed part of what the law runs, answered by the executor. No conditions. -/
import Derived.Test.YtloklkmkpahnlaaGreatDoorVSeatRun2
set_option linter.all false
namespace Go.Proofs
open Go Go.Vsx
set_option maxRecDepth 1000000
noncomputable section
theorem Tryz.run43 : answers (fCall Tryz.E2 100000 43 [] (firstHeap 8 Tryz.gsL)) true = true := by kernel_rfl
theorem Tryz.fits43 {E : Go.Vsx.Env} : PrimFits Tryz.prog E Tryz.G 43 (.memo (.bool true)) := by
  obtain ⟨H1, h⟩ := of_answers Tryz.run43
  exact memo_fits Tryz.func43 (by kernel_rfl) (by kernel_rfl) (firstHeap_ro _ _) (Tryz.ok2 _) h rfl
def Tryz.m3 : List (Nat × PrimK) := [(43, .memo (.bool true))]
def Tryz.E3 : Go.Vsx.Env := mkEnv Tryz.prog Tryz.ext (ptOf (Tryz.m3 ++ Tryz.primL))
theorem Tryz.ok3 (n : Nat) : CallOk Tryz.prog Tryz.G (callE Tryz.E3 (execC Tryz.E3 n)) := Tryz.callOk Tryz.m3 (fun x hx => by
  simp only [Tryz.m3, List.mem_cons, List.mem_nil_iff, or_false] at hx
  subst hx; exact Tryz.fits43) n
end
end Go.Proofs
