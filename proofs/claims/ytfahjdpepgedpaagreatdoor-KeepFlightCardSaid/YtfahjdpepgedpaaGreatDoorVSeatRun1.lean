/- A closed part of what the law runs, answered by the executor. No conditions. -/
import Derived.Test.YtfahjdpepgedpaaGreatDoorVSeatEnv
set_option linter.all false
namespace Go.Proofs
open Go Go.Vsx
set_option maxRecDepth 1000000
noncomputable section
def Tryz.m0 : List (Nat × PrimK) := []
theorem Tryz.mOk0 {E : Go.Vsx.Env} {mu : Mu} : ∀ x ∈ Tryz.m0, PrimFits Tryz.prog E (Tryz.Gm mu) x.1 x.2 := fun _ h => by cases h
theorem Tryz.run224 : answers (fCall (Tryz.Es Tryz.m0 .leaf) 100000 224 [] Tryz.H0) true = true := by kernel_rfl
theorem Tryz.fits224 {E : Go.Vsx.Env} {mu : Mu} : PrimFits Tryz.prog E (Tryz.Gm mu) 224 (.memo (.bool true)) := by
  obtain ⟨H1, h⟩ := of_answers Tryz.run224
  exact memo_fits Tryz.func224 (by kernel_rfl) (by kernel_rfl) (firstHeapT_ro _ _ _) (Tryz.callOk Tryz.m0 Tryz.mOk0 _) h rfl
def Tryz.m1 : List (Nat × PrimK) := [(224, .memo (.bool true))]
theorem Tryz.mOk1 {E : Go.Vsx.Env} {mu : Mu} : ∀ x ∈ Tryz.m1, PrimFits Tryz.prog E (Tryz.Gm mu) x.1 x.2 := by
  intro x hx
  simp only [Tryz.m1, List.mem_cons, List.mem_nil_iff, or_false] at hx
  subst hx; exact Tryz.fits224
end
end Go.Proofs
