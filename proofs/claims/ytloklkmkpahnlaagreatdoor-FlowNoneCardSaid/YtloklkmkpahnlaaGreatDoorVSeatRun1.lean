/- A closed part of what the law runs, answered by the executor. No conditions. -/
import Derived.Test.YtloklkmkpahnlaaGreatDoorVSeatEnv
set_option linter.all false
namespace Go.Proofs
open Go Go.Vsx
set_option maxRecDepth 1000000
noncomputable section
def Tryz.E0 : Go.Vsx.Env := mkEnv Tryz.prog Tryz.ext (ptOf ([] ++ Tryz.primL))
theorem Tryz.ok0 (n : Nat) : CallOk Tryz.prog Tryz.G (callE Tryz.E0 (execC Tryz.E0 n)) := Tryz.callOk [] (fun _ h => by cases h) n
theorem Tryz.run261 : answers (fCall Tryz.E0 100000 261 [] (firstHeap 8 Tryz.gsL)) true = true := by kernel_rfl
theorem Tryz.fits261 {E : Go.Vsx.Env} : PrimFits Tryz.prog E Tryz.G 261 (.memo (.bool true)) := by
  obtain ⟨H1, h⟩ := of_answers Tryz.run261
  exact memo_fits Tryz.func261 (by kernel_rfl) (by kernel_rfl) (firstHeap_ro _ _) (Tryz.ok0 _) h rfl
def Tryz.m1 : List (Nat × PrimK) := [(261, .memo (.bool true))]
def Tryz.E1 : Go.Vsx.Env := mkEnv Tryz.prog Tryz.ext (ptOf (Tryz.m1 ++ Tryz.primL))
theorem Tryz.ok1 (n : Nat) : CallOk Tryz.prog Tryz.G (callE Tryz.E1 (execC Tryz.E1 n)) := Tryz.callOk Tryz.m1 (fun x hx => by
  simp only [Tryz.m1, List.mem_cons, List.mem_nil_iff, or_false] at hx
  subst hx; exact Tryz.fits261) n
end
end Go.Proofs
