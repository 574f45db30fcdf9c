/- A closed part of what the law runs, answered by the executor. No conditions. -/
import Derived.Test.YtfahjdpepgedpaaGreatDoorVSeatRun1
set_option linter.all false
namespace Go.Proofs
open Go Go.Vsx
set_option maxRecDepth 1000000
noncomputable section
theorem Tryz.run102 : answers (fCall (Tryz.Es Tryz.m1 .leaf) 100000 102 [] Tryz.H0) true = true := by kernel_rfl
theorem Tryz.fits102 {E : Go.Vsx.Env} {mu : Mu} : PrimFits Tryz.prog E (Tryz.Gm mu) 102 (.memo (.bool true)) := by
  obtain ⟨H1, h⟩ := of_answers Tryz.run102
  exact memo_fits Tryz.func102 (by kernel_rfl) (by kernel_rfl) (firstHeapT_ro _ _ _) (Tryz.callOk Tryz.m1 Tryz.mOk1 _) h rfl
def Tryz.m2 : List (Nat × PrimK) := [(102, .memo (.bool true))]
theorem Tryz.mOk2 {E : Go.Vsx.Env} {mu : Mu} : ∀ x ∈ Tryz.m2, PrimFits Tryz.prog E (Tryz.Gm mu) x.1 x.2 := by
  intro x hx
  simp only [Tryz.m2, List.mem_cons, List.mem_nil_iff, or_false] at hx
  subst hx; exact Tryz.fits102
end
end Go.Proofs
