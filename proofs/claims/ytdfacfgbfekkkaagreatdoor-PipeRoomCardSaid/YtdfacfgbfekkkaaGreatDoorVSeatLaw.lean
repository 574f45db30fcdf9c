/- The law, answered by the executor for each of its cases; hence for every input. No conditions. -/
import Derived.Test.YtdfacfgbfekkkaaGreatDoorVSeatRun4
import Derived.Test.YtdfacfgbfekkkaaGreatDoorVOpen
set_option linter.all false
namespace Go.Proofs
open Go Go.Vsx Go.RowKit
set_option maxRecDepth 1000000
noncomputable section
def Tryz.tab (r s : Nat) : List SE := [
  ⟨.bin .rem, .chan (some 1000), .int .i64 8, .chan (some 1002)⟩,
  ⟨.bin .add, .chan (some 1002), .int .i64 8, .chan (some 1003)⟩,
  ⟨.bin .rem, .chan (some 1003), .int .i64 8, .int .i64 r⟩,
  ⟨.bin .rem, .chan (some 1001), .int .i64 5, .chan (some 1004)⟩,
  ⟨.bin .add, .chan (some 1004), .int .i64 5, .chan (some 1005)⟩,
  ⟨.bin .rem, .chan (some 1005), .int .i64 5, .int .i64 s⟩]
def Tryz.runs (r s : Nat) : Bool := answers (fCall (Tryz.Es Tryz.m4 (syOf (Tryz.tab r s))) 100000 3 [.chan (some 1000), .chan (some 1001)] (openHeap 8 Tryz.gsL [])) true
theorem Tryz.run3_0 : ((List.range 5).all fun s => Tryz.runs 0 s) = true := by kernel_rfl
theorem Tryz.run3_1 : ((List.range 5).all fun s => Tryz.runs 1 s) = true := by kernel_rfl
theorem Tryz.run3_2 : ((List.range 5).all fun s => Tryz.runs 2 s) = true := by kernel_rfl
theorem Tryz.run3_3 : ((List.range 5).all fun s => Tryz.runs 3 s) = true := by kernel_rfl
theorem Tryz.run3_4 : ((List.range 5).all fun s => Tryz.runs 4 s) = true := by kernel_rfl
theorem Tryz.run3_5 : ((List.range 5).all fun s => Tryz.runs 5 s) = true := by kernel_rfl
theorem Tryz.run3_6 : ((List.range 5).all fun s => Tryz.runs 6 s) = true := by kernel_rfl
theorem Tryz.run3_7 : ((List.range 5).all fun s => Tryz.runs 7 s) = true := by kernel_rfl
theorem Tryz.run3 : ∀ r, r < 8 → ∀ s, s < 5 → Tryz.runs r s = true := by
  intro r hr s hs
  have key : ∀ {p : Nat → Bool}, ((List.range 5).all p) = true → p s = true := fun h => (List.all_eq_true.1 h) s (List.mem_range.2 hs)
  match r, hr with
  | 0, _ => exact key Tryz.run3_0
  | 1, _ => exact key Tryz.run3_1
  | 2, _ => exact key Tryz.run3_2
  | 3, _ => exact key Tryz.run3_3
  | 4, _ => exact key Tryz.run3_4
  | 5, _ => exact key Tryz.run3_5
  | 6, _ => exact key Tryz.run3_6
  | 7, _ => exact key Tryz.run3_7
  | n + 8, h => omega
end
def Tryz.giv (a b : Int) : Given := ⟨atomsOf [.int .i64 a, .int .i64 b, .int .i64 (a.tmod 8), .int .i64 (a.tmod 8 + 8), .int .i64 (b.tmod 5), .int .i64 (b.tmod 5 + 5)], []⟩
theorem Tryz.walk (a b : Int) (W : World) (hc : ∀ g ∈ Tryz.gsL, g < 8 ∧ ∃ x, W.cell? ⟨g, 0, none⟩ = some x ∧ x.oneCell' = true) :
    Calls Tryz.prog 3 #[.int .i64 a, .int .i64 b] W fun e W' => e = .returned (.bool true) ∧ Below W.heap.size W W' := by
  obtain ⟨r, hr, er⟩ := cyc a 8 (by omega)
  obtain ⟨s, hs, es⟩ := cyc b 5 (by omega)
  have ra := tmod_rng (a := a) (c := 8) (by omega)
  have rb := tmod_rng (a := b) (c := 5) (by omega)
  refine open_ok (a := Tryz.giv a b) (args' := #[.int .i64 a, .int .i64 b]) (Tryz.callOkS Tryz.m4 (syOf (Tryz.tab r s)) _ Tryz.mOk4 (symOk_of rfl ?_) 100000) (Tryz.run3 r hr s hs) W hc (atomsOf_ok (by omega) rfl) (fun _ h => by cases h) (VL.cons (.atom _ _ rfl) (VL.cons (.atom _ _ rfl) VL.nil))
  exact ⟨hold_int (.atom _ _ rfl) (.int _ _) (.atom _ _ rfl) (op_rem (by omega) rfl),
    hold_int (.atom _ _ rfl) (.int _ _) (.atom _ _ rfl) (op_add (by omega) (by omega) rfl),
    hold_int (.atom _ _ rfl) (.int _ _) (.int _ _) (op_rem (by omega) er),
    hold_int (.atom _ _ rfl) (.int _ _) (.atom _ _ rfl) (op_rem (by omega) rfl),
    hold_int (.atom _ _ rfl) (.int _ _) (.atom _ _ rfl) (op_add (by omega) (by omega) rfl),
    hold_int (.atom _ _ rfl) (.int _ _) (.int _ _) (op_rem (by omega) es), trivial⟩
end Go.Proofs
