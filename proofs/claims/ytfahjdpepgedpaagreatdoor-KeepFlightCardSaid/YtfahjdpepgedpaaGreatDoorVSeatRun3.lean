/- A closed part of what the law runs, answered by the executor. No conditions. -/
import Derived.Test.YtfahjdpepgedpaaGreatDoorVSeatRun2
set_option linter.all false
namespace Go.Proofs
open Go Go.Vsx
set_option maxRecDepth 1000000
noncomputable section
theorem Tryz.run4 : answers (fCall (Tryz.Es Tryz.m2 .leaf) 100000 4 [] Tryz.H0) true = true := by kernel_rfl
theorem Tryz.fits4 {E : Go.Vsx.Env} {mu : Mu} : PrimFits Tryz.prog E (Tryz.Gm mu) 4 (.memo (.bool true)) := by
  obtain ⟨H1, h⟩ := of_answers Tryz.run4
  exact memo_fits Tryz.func4 (by kernel_rfl) (by kernel_rfl) (firstHeapT_ro _ _ _) (Tryz.callOk Tryz.m2 Tryz.mOk2 _) h rfl
def Tryz.m3 : List (Nat × PrimK) := [(4, .memo (.bool true))]
theorem Tryz.mOk3 {E : Go.Vsx.Env} {mu : Mu} : ∀ x ∈ Tryz.m3, PrimFits Tryz.prog E (Tryz.Gm mu) x.1 x.2 := by
  intro x hx
  simp only [Tryz.m3, List.mem_cons, List.mem_nil_iff, or_false] at hx
  subst hx; exact Tryz.fits4
end
end Go.Proofs
