/- law7's begun. -/
import Derived.Test.YtbbndocaocmgeaaGreatDoorVSeatEnv
set_option linter.all false
namespace Go.Proofs
open Go Go.Vsx
set_option maxRecDepth 1000000
noncomputable section
def Tryz.E0 : Go.Vsx.Env := mkEnv Tryz.prog Tryz.ext (ptOf ([] ++ Tryz.primL))
theorem Tryz.ok0 (n : Nat) : CallOk Tryz.prog Tryz.G (callE Tryz.E0 (execC Tryz.E0 n)) := Tryz.callOk [] (fun _ h => by cases h) n
theorem Tryz.run204 : answers (fCall Tryz.E0 100000 204 [] (firstHeap 8 Tryz.gsL)) true = true := by kernel_rfl
def Tryz.m1 : List (Nat × PrimK) := [(204, .memo (.bool true))]
def Tryz.E1 : Go.Vsx.Env := mkEnv Tryz.prog Tryz.ext (ptOf (Tryz.m1 ++ Tryz.primL))
theorem Tryz.fits204 {E : Go.Vsx.Env} : PrimFits Tryz.prog E Tryz.G 204 (.memo (.bool true)) := by
  obtain ⟨H1, h⟩ := of_answers Tryz.run204
  exact memo_fits Tryz.func204 (by kernel_rfl) (by kernel_rfl) (firstHeap_ro _ _) (Tryz.ok0 _) h rfl
theorem Tryz.ok1 (n : Nat) : CallOk Tryz.prog Tryz.G (callE Tryz.E1 (execC Tryz.E1 n)) := Tryz.callOk Tryz.m1 (fun x hx => by
  simp only [Tryz.m1, List.mem_cons, List.mem_nil_iff, or_false] at hx
  subst hx; exact Tryz.fits204) n
theorem Tryz.run66 : answers (fCall Tryz.E1 100000 66 [] (firstHeap 8 Tryz.gsL)) true = true := by kernel_rfl
theorem Tryz.fits66 {E : Go.Vsx.Env} : PrimFits Tryz.prog E Tryz.G 66 (.memo (.bool true)) := by
  obtain ⟨H1, h⟩ := of_answers Tryz.run66
  exact memo_fits Tryz.func66 (by kernel_rfl) (by kernel_rfl) (firstHeap_ro _ _) (Tryz.ok1 _) h rfl
end
end Go.Proofs
