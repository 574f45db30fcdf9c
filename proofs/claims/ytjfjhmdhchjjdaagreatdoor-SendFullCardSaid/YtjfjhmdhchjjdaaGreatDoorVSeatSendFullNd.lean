/- The law's nodes: states at its loops' heads. No conditions. -/
import Derived.Test.YtjfjhmdhchjjdaaGreatDoorVGlue
import Derived.Test.YtjfjhmdhchjjdaaGreatDoorVSeatRun3
set_option linter.all false
namespace Go.Proofs
open Go Go.Vsx
set_option maxRecDepth 1000000
noncomputable section
theorem Zw.ft : (genPT 12 (fun f => Tryz.prog.funcs[f]?)).get 5 = some Tryz.f5 := by kernel_rfl
theorem Zw.envF (m : List (Nat × PrimK)) (sy : PT (List SE)) : EnvF Tryz.prog (Tryz.Es m sy) 8 := by
  have := mkEnvS_fn (P := Tryz.prog) Tryz.ext (ptOf (m ++ Tryz.primL)) sy Tryz.chk
  rw [Tryz.nglob] at this; exact this
noncomputable def Zw.gr : List (Nat × AObj) := [(1, (.row ⟨[(ch 1)], 1, 0, 1, true, false, false⟩)), (2, (.row ⟨[(ch 2)], 1, 0, 1, true, false, false⟩))]
noncomputable def Zw.pS : Pt := ptStart Tryz.f5
theorem Zw.kS (m : List (Nat × PrimK)) (sy : PT (List SE)) : okPt (Tryz.Es m sy) 8 Zw.pS = true := okPt_start (Zw.envF m sy) Zw.ft
noncomputable def Zw.d0 : Nd := ⟨74, [(0, (ch 1000)), (1, (ch 1001))], 10, Zw.gr ++ []⟩
end
noncomputable def Zw.allR (p : Int → Bool) (l : List Int) : Bool := @List.rec Int (fun _ => Bool) true (fun x _ ih => @Bool.rec (fun _ => Bool) false ih (p x)) l
theorem Zw.allR_mem {p : Int → Bool} : ∀ {l : List Int} {x : Int}, Zw.allR p l = true → x ∈ l → p x = true
  | [], _, _, h => by cases h
  | y :: l, x, h, hm => by
    have h' : @Bool.rec (fun _ => Bool) false (Zw.allR p l) (p y) = true := h
    cases hp : p y with
    | false => rw [hp] at h'; cases h'
    | true =>
      rw [hp] at h'
      rcases List.mem_cons.1 hm with rfl | hm
      · exact hp
      · exact Zw.allR_mem h' hm
noncomputable section
noncomputable def Zw.tg (gx gy : Int) : List SE := ncL [⟨.bin .rem, (ch 1000), (.int .i64 50), (ch 1002)⟩,
  ⟨.bin .add, (ch 1002), (.int .i64 50), (ch 1003)⟩,
  ⟨.bin .rem, (ch 1003), (.int .i64 50), (.int .i64 gx)⟩,
  ⟨.bin .rem, (ch 1001), (.int .i64 50), (ch 1004)⟩,
  ⟨.bin .add, (ch 1004), (.int .i64 50), (ch 1005)⟩,
  ⟨.bin .rem, (ch 1005), (.int .i64 50), (.int .i64 gy)⟩]
theorem Zw.i0 : Zw.d0.sub 8 [] (idl 8 Zw.d0.objs) (idA 2) (Zw.d0.st 8 []) = true := by kernel_rfl
noncomputable def Zw.gr1 (gx gy : Int) : Bool := leafFin (Tryz.Es Tryz.m3 (syOf (Zw.tg gx gy))) Tryz.f5 (fK (Tryz.Es Tryz.m3 (syOf (Zw.tg gx gy))) 100000 100000 Zw.pS (Zw.d0.st 8 []) 0)
end
def Zw.ys : List Int := [0, 1, 2, 3, 4, 5, 6, 7, 8, 9, 10, 11, 12, 13, 14, 15, 16, 17, 18, 19, 20, 21, 22, 23, 24, 25, 26, 27, 28, 29, 30, 31, 32, 33, 34, 35, 36, 37, 38, 39, 40, 41, 42, 43, 44, 45, 46, 47, 48, 49]
theorem Zw.mem_ys {y : Int} (h0 : 0 ≤ y) (h1 : y < 50) : y ∈ Zw.ys := by
  rcases (show y = 0 ∨ y = 1 ∨ y = 2 ∨ y = 3 ∨ y = 4 ∨ y = 5 ∨ y = 6 ∨ y = 7 ∨ y = 8 ∨ y = 9 ∨ y = 10 ∨ y = 11 ∨ y = 12 ∨ y = 13 ∨ y = 14 ∨ y = 15 ∨ y = 16 ∨ y = 17 ∨ y = 18 ∨ y = 19 ∨ y = 20 ∨ y = 21 ∨ y = 22 ∨ y = 23 ∨ y = 24 ∨ y = 25 ∨ y = 26 ∨ y = 27 ∨ y = 28 ∨ y = 29 ∨ y = 30 ∨ y = 31 ∨ y = 32 ∨ y = 33 ∨ y = 34 ∨ y = 35 ∨ y = 36 ∨ y = 37 ∨ y = 38 ∨ y = 39 ∨ y = 40 ∨ y = 41 ∨ y = 42 ∨ y = 43 ∨ y = 44 ∨ y = 45 ∨ y = 46 ∨ y = 47 ∨ y = 48 ∨ y = 49 by omega) with h | h | h | h | h | h | h | h | h | h | h | h | h | h | h | h | h | h | h | h | h | h | h | h | h | h | h | h | h | h | h | h | h | h | h | h | h | h | h | h | h | h | h | h | h | h | h | h | h | h <;> subst h <;> decide
end Go.Proofs
