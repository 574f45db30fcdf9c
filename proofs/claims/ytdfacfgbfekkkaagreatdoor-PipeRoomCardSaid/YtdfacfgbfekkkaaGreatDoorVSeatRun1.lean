/- A closed part of what the law runs, answered by the executor. No conditions. -/
import Derived.Test.YtdfacfgbfekkkaaGreatDoorVSeatEnv
set_option linter.all false
namespace Go.Proofs
open Go Go.Vsx
set_option maxRecDepth 1000000
noncomputable section
theorem Tryz.ok0 (n : Nat) : CallOk Tryz.prog (Tryz.Gm noMu) (callE (Tryz.Es [] .leaf) (execC (Tryz.Es [] .leaf) n)) := Tryz.callOk [] (fun _ h => by cases h) n
def Tryz.m0 : List (Nat × PrimK) := []
theorem Tryz.run242 : answers (fCall (Tryz.Es Tryz.m0 .leaf) 100000 242 [] (firstHeap 8 Tryz.gsL)) true = true := by kernel_rfl
theorem Tryz.fits242 {E : Go.Vsx.Env} {mu : Mu} : PrimFits Tryz.prog E (Tryz.Gm mu) 242 (.memo (.bool true)) := by
  obtain ⟨H1, h⟩ := of_answers Tryz.run242
  exact memo_fits Tryz.func242 (by kernel_rfl) (by kernel_rfl) (firstHeap_ro _ _) (Tryz.ok0 _) h rfl
def Tryz.m1 : List (Nat × PrimK) := [(242, .memo (.bool true))]
theorem Tryz.mOk1 {E : Go.Vsx.Env} {mu : Mu} : ∀ x ∈ Tryz.m1, PrimFits Tryz.prog E (Tryz.Gm mu) x.1 x.2 := by
  intro x hx
  simp only [Tryz.m1, List.mem_cons, List.mem_nil_iff, or_false] at hx
  subst hx; exact Tryz.fits242
theorem Tryz.ok1 (n : Nat) : CallOk Tryz.prog (Tryz.Gm noMu) (callE (Tryz.Es Tryz.m1 .leaf) (execC (Tryz.Es Tryz.m1 .leaf) n)) := Tryz.callOk Tryz.m1 Tryz.mOk1 n
end
end Go.Proofs
