/- A closed part of what the law runs, answered by the executor. No conditions. -/
import Derived.Test.YtdfacfgbfekkkaaGreatDoorVSeatRun2
set_option linter.all false
namespace Go.Proofs
open Go Go.Vsx
set_option maxRecDepth 1000000
noncomputable section
theorem Tryz.run24 : answers (fCall (Tryz.Es Tryz.m2 .leaf) 100000 24 [] (firstHeap 8 Tryz.gsL)) true = true := by kernel_rfl
theorem Tryz.fits24 {E : Go.Vsx.Env} {mu : Mu} : PrimFits Tryz.prog E (Tryz.Gm mu) 24 (.memo (.bool true)) := by
  obtain ⟨H1, h⟩ := of_answers Tryz.run24
  exact memo_fits Tryz.func24 (by kernel_rfl) (by kernel_rfl) (firstHeap_ro _ _) (Tryz.ok2 _) h rfl
def Tryz.m3 : List (Nat × PrimK) := [(24, .memo (.bool true))]
theorem Tryz.mOk3 {E : Go.Vsx.Env} {mu : Mu} : ∀ x ∈ Tryz.m3, PrimFits Tryz.prog E (Tryz.Gm mu) x.1 x.2 := by
  intro x hx
  simp only [Tryz.m3, List.mem_cons, List.mem_nil_iff, or_false] at hx
  subst hx; exact Tryz.fits24
theorem Tryz.ok3 (n : Nat) : CallOk Tryz.prog (Tryz.Gm noMu) (callE (Tryz.Es Tryz.m3 .leaf) (execC (Tryz.Es Tryz.m3 .leaf) n)) := Tryz.callOk Tryz.m3 Tryz.mOk3 n
end
end Go.Proofs
