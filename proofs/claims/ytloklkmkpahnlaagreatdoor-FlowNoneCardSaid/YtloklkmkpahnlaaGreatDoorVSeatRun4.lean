/- A closed part of what the law runs, answered by the executor. No conditions. -/
import Derived.Test.YtloklkmkpahnlaaGreatDoorVSeatRun3
set_option linter.all false
namespace Go.Proofs
open Go Go.Vsx
set_option maxRecDepth 1000000
noncomputable section
theorem Tryz.run11 : answers (fCall Tryz.E3 100000 11 [] (firstHeap 8 Tryz.gsL)) true = true := by kernel_rfl
theorem Tryz.fits11 {E : Go.Vsx.Env} : PrimFits Tryz.prog E Tryz.G 11 (.memo (.bool true)) := by
  obtain ⟨H1, h⟩ := of_answers Tryz.run11
  exact memo_fits Tryz.func11 (by kernel_rfl) (by kernel_rfl) (firstHeap_ro _ _) (Tryz.ok3 _) h rfl
def Tryz.m4 : List (Nat × PrimK) := [(11, .memo (.bool true))]
def Tryz.E4 : Go.Vsx.Env := mkEnv Tryz.prog Tryz.ext (ptOf (Tryz.m4 ++ Tryz.primL))
theorem Tryz.ok4 (n : Nat) : CallOk Tryz.prog Tryz.G (callE Tryz.E4 (execC Tryz.E4 n)) := Tryz.callOk Tryz.m4 (fun x hx => by
  simp only [Tryz.m4, List.mem_cons, List.mem_nil_iff, or_false] at hx
  subst hx; exact Tryz.fits11) n
end
end Go.Proofs
