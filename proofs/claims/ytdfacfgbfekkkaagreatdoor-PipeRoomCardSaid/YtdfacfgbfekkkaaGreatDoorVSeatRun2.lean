/- A closed part of what the law runs, answered by the executor. No conditions. -/
import Derived.Test.YtdfacfgbfekkkaaGreatDoorVSeatRun1
set_option linter.all false
namespace Go.Proofs
open Go Go.Vsx
set_option maxRecDepth 1000000
noncomputable section
theorem Tryz.run92 : answers (fCall (Tryz.Es Tryz.m1 .leaf) 100000 92 [] (firstHeap 8 Tryz.gsL)) true = true := by kernel_rfl
theorem Tryz.fits92 {E : Go.Vsx.Env} {mu : Mu} : PrimFits Tryz.prog E (Tryz.Gm mu) 92 (.memo (.bool true)) := by
  obtain ⟨H1, h⟩ := of_answers Tryz.run92
  exact memo_fits Tryz.func92 (by kernel_rfl) (by kernel_rfl) (firstHeap_ro _ _) (Tryz.ok1 _) h rfl
def Tryz.m2 : List (Nat × PrimK) := [(92, .memo (.bool true))]
theorem Tryz.mOk2 {E : Go.Vsx.Env} {mu : Mu} : ∀ x ∈ Tryz.m2, PrimFits Tryz.prog E (Tryz.Gm mu) x.1 x.2 := by
  intro x hx
  simp only [Tryz.m2, List.mem_cons, List.mem_nil_iff, or_false] at hx
  subst hx; exact Tryz.fits92
theorem Tryz.ok2 (n : Nat) : CallOk Tryz.prog (Tryz.Gm noMu) (callE (Tryz.Es Tryz.m2 .leaf) (execC (Tryz.Es Tryz.m2 .leaf) n)) := Tryz.callOk Tryz.m2 Tryz.mOk2 n
end
end Go.Proofs
