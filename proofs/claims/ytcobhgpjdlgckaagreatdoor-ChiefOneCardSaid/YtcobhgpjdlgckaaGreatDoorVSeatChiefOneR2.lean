/- Pieces of the law's run, from node to node, answered by the executor. No conditions. -/
import Derived.Test.YtcobhgpjdlgckaaGreatDoorVSeatChiefOneNd
set_option linter.all false
namespace Go.Proofs
open Go Go.Vsx
set_option maxRecDepth 1000000
noncomputable section
noncomputable def Tryz.ChiefOne.t41 : List SE := ncL [⟨.bin .lss, (.int .i64 6), (ch 1001), (.bool false)⟩]
theorem Tryz.ChiefOne.i41 : Tryz.ChiefOne.d21.sub 8 [] (idl 8 Tryz.ChiefOne.d21.objs) (idA 3) (Tryz.ChiefOne.d21.st 8 []) = true := by kernel_rfl
theorem Tryz.ChiefOne.r41 : leafFin (Tryz.Es Tryz.m4 (syOf Tryz.ChiefOne.t41)) Tryz.f3 (fK (Tryz.Es Tryz.m4 (syOf Tryz.ChiefOne.t41)) 100000 100000 Tryz.ChiefOne.p0 (Tryz.ChiefOne.d21.st 8 []) 1) = true := by kernel_rfl
noncomputable def Tryz.ChiefOne.t42 : List SE := ncL [⟨.bin .lss, (.int .i64 7), (ch 1001), (.bool true)⟩,
  ⟨.bin .gtr, (ch 1002), (.int .i64 99999), (.bool false)⟩,
  ⟨.bin .add, (ch 1002), (.int .i64 1), (ch 1003)⟩,
  ⟨.bin .add, (ch 1000), (.int .i64 7), (ch 1004)⟩,
  ⟨.bin .gtr, (ch 1004), (.int .i64 99999), (.bool false)⟩,
  ⟨.bin .neq, (ch 1002), (ch 1004), (.bool false)⟩,
  ⟨.bin .gtr, (ch 1002), (.int .i64 0), (.bool true)⟩,
  ⟨.bin .eql, (ch 1002), (.int .i64 0), (.bool false)⟩]
theorem Tryz.ChiefOne.i42 : Tryz.ChiefOne.d22.sub 8 [] (idl 8 Tryz.ChiefOne.d22.objs) (idA 3) (Tryz.ChiefOne.d22.st 8 []) = true := by kernel_rfl
theorem Tryz.ChiefOne.r42 : leafNext (fK (Tryz.Es Tryz.m4 (syOf Tryz.ChiefOne.t42)) 100000 100000 Tryz.ChiefOne.p0 (Tryz.ChiefOne.d22.st 8 []) 3) 8 Tryz.ChiefOne.d25 [(12, 12), (13, 18), (14, 14), (15, 15)] [(ch 1000), (ch 1001), (ch 1003)] = some Tryz.ChiefOne.p0 := by kernel_rfl
noncomputable def Tryz.ChiefOne.t43 : List SE := ncL [⟨.bin .lss, (.int .i64 7), (ch 1001), (.bool false)⟩]
theorem Tryz.ChiefOne.i43 : Tryz.ChiefOne.d22.sub 8 [] (idl 8 Tryz.ChiefOne.d22.objs) (idA 3) (Tryz.ChiefOne.d22.st 8 []) = true := by kernel_rfl
theorem Tryz.ChiefOne.r43 : leafFin (Tryz.Es Tryz.m4 (syOf Tryz.ChiefOne.t43)) Tryz.f3 (fK (Tryz.Es Tryz.m4 (syOf Tryz.ChiefOne.t43)) 100000 100000 Tryz.ChiefOne.p0 (Tryz.ChiefOne.d22.st 8 []) 1) = true := by kernel_rfl
noncomputable def Tryz.ChiefOne.t44 : List SE := ncL [⟨.bin .lss, (.int .i64 7), (ch 1001), (.bool true)⟩,
  ⟨.bin .gtr, (ch 1002), (.int .i64 99999), (.bool false)⟩,
  ⟨.bin .add, (ch 1002), (.int .i64 1), (ch 1003)⟩,
  ⟨.bin .add, (ch 1000), (.int .i64 7), (ch 1004)⟩,
  ⟨.bin .gtr, (ch 1004), (.int .i64 99999), (.bool false)⟩,
  ⟨.bin .neq, (ch 1002), (ch 1004), (.bool false)⟩,
  ⟨.bin .gtr, (ch 1002), (.int .i64 0), (.bool true)⟩,
  ⟨.bin .eql, (ch 1002), (.int .i64 0), (.bool false)⟩]
theorem Tryz.ChiefOne.i44 : Tryz.ChiefOne.d23.sub 8 [] (idl 8 Tryz.ChiefOne.d23.objs) (idA 3) (Tryz.ChiefOne.d23.st 8 []) = true := by kernel_rfl
theorem Tryz.ChiefOne.r44 : leafNext (fK (Tryz.Es Tryz.m4 (syOf Tryz.ChiefOne.t44)) 100000 100000 Tryz.ChiefOne.p0 (Tryz.ChiefOne.d23.st 8 []) 4) 8 Tryz.ChiefOne.d26 [(12, 12), (13, 18), (14, 14), (15, 15)] [(ch 1000), (ch 1001), (ch 1003)] = some Tryz.ChiefOne.p0 := by kernel_rfl
noncomputable def Tryz.ChiefOne.t45 : List SE := ncL [⟨.bin .lss, (.int .i64 7), (ch 1001), (.bool false)⟩]
theorem Tryz.ChiefOne.i45 : Tryz.ChiefOne.d23.sub 8 [] (idl 8 Tryz.ChiefOne.d23.objs) (idA 3) (Tryz.ChiefOne.d23.st 8 []) = true := by kernel_rfl
theorem Tryz.ChiefOne.r45 : leafFin (Tryz.Es Tryz.m4 (syOf Tryz.ChiefOne.t45)) Tryz.f3 (fK (Tryz.Es Tryz.m4 (syOf Tryz.ChiefOne.t45)) 100000 100000 Tryz.ChiefOne.p0 (Tryz.ChiefOne.d23.st 8 []) 1) = true := by kernel_rfl
noncomputable def Tryz.ChiefOne.t46 : List SE := ncL [⟨.bin .lss, (.int .i64 7), (ch 1001), (.bool true)⟩,
  ⟨.bin .gtr, (ch 1002), (.int .i64 99999), (.bool false)⟩,
  ⟨.bin .add, (ch 1002), (.int .i64 1), (ch 1003)⟩,
  ⟨.bin .add, (ch 1000), (.int .i64 7), (ch 1004)⟩,
  ⟨.bin .gtr, (ch 1004), (.int .i64 99999), (.bool false)⟩,
  ⟨.bin .neq, (ch 1002), (ch 1004), (.bool false)⟩,
  ⟨.bin .gtr, (ch 1002), (.int .i64 0), (.bool true)⟩,
  ⟨.bin .eql, (ch 1002), (.int .i64 0), (.bool false)⟩]
theorem Tryz.ChiefOne.i46 : Tryz.ChiefOne.d24.sub 8 [] (idl 8 Tryz.ChiefOne.d24.objs) (idA 3) (Tryz.ChiefOne.d24.st 8 []) = true := by kernel_rfl
theorem Tryz.ChiefOne.r46 : leafNext (fK (Tryz.Es Tryz.m4 (syOf Tryz.ChiefOne.t46)) 100000 100000 Tryz.ChiefOne.p0 (Tryz.ChiefOne.d24.st 8 []) 5) 8 Tryz.ChiefOne.d27 [(12, 12), (13, 18), (14, 14), (15, 15)] [(ch 1000), (ch 1001), (ch 1003)] = some Tryz.ChiefOne.p0 := by kernel_rfl
noncomputable def Tryz.ChiefOne.t47 : List SE := ncL [⟨.bin .lss, (.int .i64 7), (ch 1001), (.bool false)⟩]
theorem Tryz.ChiefOne.i47 : Tryz.ChiefOne.d24.sub 8 [] (idl 8 Tryz.ChiefOne.d24.objs) (idA 3) (Tryz.ChiefOne.d24.st 8 []) = true := by kernel_rfl
theorem Tryz.ChiefOne.r47 : leafFin (Tryz.Es Tryz.m4 (syOf Tryz.ChiefOne.t47)) Tryz.f3 (fK (Tryz.Es Tryz.m4 (syOf Tryz.ChiefOne.t47)) 100000 100000 Tryz.ChiefOne.p0 (Tryz.ChiefOne.d24.st 8 []) 1) = true := by kernel_rfl
noncomputable def Tryz.ChiefOne.t48 : List SE := ncL [⟨.bin .lss, (.int .i64 8), (ch 1001), (.bool true)⟩,
  ⟨.bin .gtr, (ch 1002), (.int .i64 99999), (.bool false)⟩,
  ⟨.bin .add, (ch 1002), (.int .i64 1), (ch 1003)⟩,
  ⟨.bin .add, (ch 1000), (.int .i64 8), (ch 1004)⟩,
  ⟨.bin .gtr, (ch 1004), (.int .i64 99999), (.bool false)⟩,
  ⟨.bin .neq, (ch 1002), (ch 1004), (.bool false)⟩,
  ⟨.bin .gtr, (ch 1002), (.int .i64 0), (.bool true)⟩,
  ⟨.bin .eql, (ch 1002), (.int .i64 0), (.bool false)⟩]
theorem Tryz.ChiefOne.i48 : Tryz.ChiefOne.d25.sub 8 [] (idl 8 Tryz.ChiefOne.d25.objs) (idA 3) (Tryz.ChiefOne.d25.st 8 []) = true := by kernel_rfl
theorem Tryz.ChiefOne.r48 : leafNext (fK (Tryz.Es Tryz.m4 (syOf Tryz.ChiefOne.t48)) 100000 100000 Tryz.ChiefOne.p0 (Tryz.ChiefOne.d25.st 8 []) 3) 8 Tryz.ChiefOne.d28 [(12, 12), (13, 18), (14, 14), (15, 15)] [(ch 1000), (ch 1001), (ch 1003)] = some Tryz.ChiefOne.p0 := by kernel_rfl
noncomputable def Tryz.ChiefOne.t49 : List SE := ncL [⟨.bin .lss, (.int .i64 8), (ch 1001), (.bool false)⟩]
theorem Tryz.ChiefOne.i49 : Tryz.ChiefOne.d25.sub 8 [] (idl 8 Tryz.ChiefOne.d25.objs) (idA 3) (Tryz.ChiefOne.d25.st 8 []) = true := by kernel_rfl
theorem Tryz.ChiefOne.r49 : leafFin (Tryz.Es Tryz.m4 (syOf Tryz.ChiefOne.t49)) Tryz.f3 (fK (Tryz.Es Tryz.m4 (syOf Tryz.ChiefOne.t49)) 100000 100000 Tryz.ChiefOne.p0 (Tryz.ChiefOne.d25.st 8 []) 1) = true := by kernel_rfl
noncomputable def Tryz.ChiefOne.t50 : List SE := ncL [⟨.bin .lss, (.int .i64 8), (ch 1001), (.bool true)⟩,
  ⟨.bin .gtr, (ch 1002), (.int .i64 99999), (.bool false)⟩,
  ⟨.bin .add, (ch 1002), (.int .i64 1), (ch 1003)⟩,
  ⟨.bin .add, (ch 1000), (.int .i64 8), (ch 1004)⟩,
  ⟨.bin .gtr, (ch 1004), (.int .i64 99999), (.bool false)⟩,
  ⟨.bin .neq, (ch 1002), (ch 1004), (.bool false)⟩,
  ⟨.bin .gtr, (ch 1002), (.int .i64 0), (.bool true)⟩,
  ⟨.bin .eql, (ch 1002), (.int .i64 0), (.bool false)⟩]
theorem Tryz.ChiefOne.i50 : Tryz.ChiefOne.d26.sub 8 [] (idl 8 Tryz.ChiefOne.d26.objs) (idA 3) (Tryz.ChiefOne.d26.st 8 []) = true := by kernel_rfl
theorem Tryz.ChiefOne.r50 : leafNext (fK (Tryz.Es Tryz.m4 (syOf Tryz.ChiefOne.t50)) 100000 100000 Tryz.ChiefOne.p0 (Tryz.ChiefOne.d26.st 8 []) 4) 8 Tryz.ChiefOne.d29 [(12, 12), (13, 18), (14, 14), (15, 15)] [(ch 1000), (ch 1001), (ch 1003)] = some Tryz.ChiefOne.p0 := by kernel_rfl
noncomputable def Tryz.ChiefOne.t51 : List SE := ncL [⟨.bin .lss, (.int .i64 8), (ch 1001), (.bool false)⟩]
theorem Tryz.ChiefOne.i51 : Tryz.ChiefOne.d26.sub 8 [] (idl 8 Tryz.ChiefOne.d26.objs) (idA 3) (Tryz.ChiefOne.d26.st 8 []) = true := by kernel_rfl
theorem Tryz.ChiefOne.r51 : leafFin (Tryz.Es Tryz.m4 (syOf Tryz.ChiefOne.t51)) Tryz.f3 (fK (Tryz.Es Tryz.m4 (syOf Tryz.ChiefOne.t51)) 100000 100000 Tryz.ChiefOne.p0 (Tryz.ChiefOne.d26.st 8 []) 1) = true := by kernel_rfl
noncomputable def Tryz.ChiefOne.t52 : List SE := ncL [⟨.bin .lss, (.int .i64 8), (ch 1001), (.bool true)⟩,
  ⟨.bin .gtr, (ch 1002), (.int .i64 99999), (.bool false)⟩,
  ⟨.bin .add, (ch 1002), (.int .i64 1), (ch 1003)⟩,
  ⟨.bin .add, (ch 1000), (.int .i64 8), (ch 1004)⟩,
  ⟨.bin .gtr, (ch 1004), (.int .i64 99999), (.bool false)⟩,
  ⟨.bin .neq, (ch 1002), (ch 1004), (.bool false)⟩,
  ⟨.bin .gtr, (ch 1002), (.int .i64 0), (.bool true)⟩,
  ⟨.bin .eql, (ch 1002), (.int .i64 0), (.bool false)⟩]
theorem Tryz.ChiefOne.i52 : Tryz.ChiefOne.d27.sub 8 [] (idl 8 Tryz.ChiefOne.d27.objs) (idA 3) (Tryz.ChiefOne.d27.st 8 []) = true := by kernel_rfl
theorem Tryz.ChiefOne.r52 : leafNext (fK (Tryz.Es Tryz.m4 (syOf Tryz.ChiefOne.t52)) 100000 100000 Tryz.ChiefOne.p0 (Tryz.ChiefOne.d27.st 8 []) 5) 8 Tryz.ChiefOne.d30 [(12, 12), (13, 18), (14, 14), (15, 15)] [(ch 1000), (ch 1001), (ch 1003)] = some Tryz.ChiefOne.p0 := by kernel_rfl
noncomputable def Tryz.ChiefOne.t53 : List SE := ncL [⟨.bin .lss, (.int .i64 8), (ch 1001), (.bool false)⟩]
theorem Tryz.ChiefOne.i53 : Tryz.ChiefOne.d27.sub 8 [] (idl 8 Tryz.ChiefOne.d27.objs) (idA 3) (Tryz.ChiefOne.d27.st 8 []) = true := by kernel_rfl
theorem Tryz.ChiefOne.r53 : leafFin (Tryz.Es Tryz.m4 (syOf Tryz.ChiefOne.t53)) Tryz.f3 (fK (Tryz.Es Tryz.m4 (syOf Tryz.ChiefOne.t53)) 100000 100000 Tryz.ChiefOne.p0 (Tryz.ChiefOne.d27.st 8 []) 1) = true := by kernel_rfl
noncomputable def Tryz.ChiefOne.t54 : List SE := ncL [⟨.bin .lss, (.int .i64 9), (ch 1001), (.bool true)⟩,
  ⟨.bin .gtr, (ch 1002), (.int .i64 99999), (.bool false)⟩,
  ⟨.bin .add, (ch 1002), (.int .i64 1), (ch 1003)⟩,
  ⟨.bin .add, (ch 1000), (.int .i64 9), (ch 1004)⟩,
  ⟨.bin .gtr, (ch 1004), (.int .i64 99999), (.bool false)⟩,
  ⟨.bin .neq, (ch 1002), (ch 1004), (.bool false)⟩,
  ⟨.bin .gtr, (ch 1002), (.int .i64 0), (.bool true)⟩,
  ⟨.bin .eql, (ch 1002), (.int .i64 0), (.bool false)⟩]
theorem Tryz.ChiefOne.i54 : Tryz.ChiefOne.d28.sub 8 [] (idl 8 Tryz.ChiefOne.d28.objs) (idA 3) (Tryz.ChiefOne.d28.st 8 []) = true := by kernel_rfl
theorem Tryz.ChiefOne.r54 : leafNext (fK (Tryz.Es Tryz.m4 (syOf Tryz.ChiefOne.t54)) 100000 100000 Tryz.ChiefOne.p0 (Tryz.ChiefOne.d28.st 8 []) 3) 8 Tryz.ChiefOne.d31 [(12, 12), (13, 18), (14, 14), (15, 15)] [(ch 1000), (ch 1001), (ch 1003)] = some Tryz.ChiefOne.p0 := by kernel_rfl
noncomputable def Tryz.ChiefOne.t55 : List SE := ncL [⟨.bin .lss, (.int .i64 9), (ch 1001), (.bool false)⟩]
theorem Tryz.ChiefOne.i55 : Tryz.ChiefOne.d28.sub 8 [] (idl 8 Tryz.ChiefOne.d28.objs) (idA 3) (Tryz.ChiefOne.d28.st 8 []) = true := by kernel_rfl
theorem Tryz.ChiefOne.r55 : leafFin (Tryz.Es Tryz.m4 (syOf Tryz.ChiefOne.t55)) Tryz.f3 (fK (Tryz.Es Tryz.m4 (syOf Tryz.ChiefOne.t55)) 100000 100000 Tryz.ChiefOne.p0 (Tryz.ChiefOne.d28.st 8 []) 1) = true := by kernel_rfl
noncomputable def Tryz.ChiefOne.t56 : List SE := ncL [⟨.bin .lss, (.int .i64 9), (ch 1001), (.bool true)⟩,
  ⟨.bin .gtr, (ch 1002), (.int .i64 99999), (.bool false)⟩,
  ⟨.bin .add, (ch 1002), (.int .i64 1), (ch 1003)⟩,
  ⟨.bin .add, (ch 1000), (.int .i64 9), (ch 1004)⟩,
  ⟨.bin .gtr, (ch 1004), (.int .i64 99999), (.bool false)⟩,
  ⟨.bin .neq, (ch 1002), (ch 1004), (.bool false)⟩,
  ⟨.bin .gtr, (ch 1002), (.int .i64 0), (.bool true)⟩,
  ⟨.bin .eql, (ch 1002), (.int .i64 0), (.bool false)⟩]
theorem Tryz.ChiefOne.i56 : Tryz.ChiefOne.d29.sub 8 [] (idl 8 Tryz.ChiefOne.d29.objs) (idA 3) (Tryz.ChiefOne.d29.st 8 []) = true := by kernel_rfl
theorem Tryz.ChiefOne.r56 : leafNext (fK (Tryz.Es Tryz.m4 (syOf Tryz.ChiefOne.t56)) 100000 100000 Tryz.ChiefOne.p0 (Tryz.ChiefOne.d29.st 8 []) 4) 8 Tryz.ChiefOne.d32 [(12, 12), (13, 18), (14, 14), (15, 15)] [(ch 1000), (ch 1001), (ch 1003)] = some Tryz.ChiefOne.p0 := by kernel_rfl
noncomputable def Tryz.ChiefOne.t57 : List SE := ncL [⟨.bin .lss, (.int .i64 9), (ch 1001), (.bool false)⟩]
theorem Tryz.ChiefOne.i57 : Tryz.ChiefOne.d29.sub 8 [] (idl 8 Tryz.ChiefOne.d29.objs) (idA 3) (Tryz.ChiefOne.d29.st 8 []) = true := by kernel_rfl
theorem Tryz.ChiefOne.r57 : leafFin (Tryz.Es Tryz.m4 (syOf Tryz.ChiefOne.t57)) Tryz.f3 (fK (Tryz.Es Tryz.m4 (syOf Tryz.ChiefOne.t57)) 100000 100000 Tryz.ChiefOne.p0 (Tryz.ChiefOne.d29.st 8 []) 1) = true := by kernel_rfl
noncomputable def Tryz.ChiefOne.t58 : List SE := ncL [⟨.bin .lss, (.int .i64 9), (ch 1001), (.bool true)⟩,
  ⟨.bin .gtr, (ch 1002), (.int .i64 99999), (.bool false)⟩,
  ⟨.bin .add, (ch 1002), (.int .i64 1), (ch 1003)⟩,
  ⟨.bin .add, (ch 1000), (.int .i64 9), (ch 1004)⟩,
  ⟨.bin .gtr, (ch 1004), (.int .i64 99999), (.bool false)⟩,
  ⟨.bin .neq, (ch 1002), (ch 1004), (.bool false)⟩,
  ⟨.bin .gtr, (ch 1002), (.int .i64 0), (.bool true)⟩,
  ⟨.bin .eql, (ch 1002), (.int .i64 0), (.bool false)⟩]
theorem Tryz.ChiefOne.i58 : Tryz.ChiefOne.d30.sub 8 [] (idl 8 Tryz.ChiefOne.d30.objs) (idA 3) (Tryz.ChiefOne.d30.st 8 []) = true := by kernel_rfl
theorem Tryz.ChiefOne.r58 : leafNext (fK (Tryz.Es Tryz.m4 (syOf Tryz.ChiefOne.t58)) 100000 100000 Tryz.ChiefOne.p0 (Tryz.ChiefOne.d30.st 8 []) 5) 8 Tryz.ChiefOne.d33 [(12, 12), (13, 18), (14, 14), (15, 15)] [(ch 1000), (ch 1001), (ch 1003)] = some Tryz.ChiefOne.p0 := by kernel_rfl
noncomputable def Tryz.ChiefOne.t59 : List SE := ncL [⟨.bin .lss, (.int .i64 9), (ch 1001), (.bool false)⟩]
theorem Tryz.ChiefOne.i59 : Tryz.ChiefOne.d30.sub 8 [] (idl 8 Tryz.ChiefOne.d30.objs) (idA 3) (Tryz.ChiefOne.d30.st 8 []) = true := by kernel_rfl
theorem Tryz.ChiefOne.r59 : leafFin (Tryz.Es Tryz.m4 (syOf Tryz.ChiefOne.t59)) Tryz.f3 (fK (Tryz.Es Tryz.m4 (syOf Tryz.ChiefOne.t59)) 100000 100000 Tryz.ChiefOne.p0 (Tryz.ChiefOne.d30.st 8 []) 1) = true := by kernel_rfl
noncomputable def Tryz.ChiefOne.t60 : List SE := ncL [⟨.bin .lss, (.int .i64 10), (ch 1001), (.bool true)⟩,
  ⟨.bin .gtr, (ch 1002), (.int .i64 99999), (.bool true)⟩,
  ⟨.bin .add, (ch 1000), (.int .i64 10), (ch 1003)⟩,
  ⟨.bin .gtr, (ch 1003), (.int .i64 99999), (.bool true)⟩]
theorem Tryz.ChiefOne.i60 : Tryz.ChiefOne.d31.sub 8 [] (idl 8 Tryz.ChiefOne.d31.objs) (idA 3) (Tryz.ChiefOne.d31.st 8 []) = true := by kernel_rfl
theorem Tryz.ChiefOne.r60 : leafFin (Tryz.Es Tryz.m4 (syOf Tryz.ChiefOne.t60)) Tryz.f3 (fK (Tryz.Es Tryz.m4 (syOf Tryz.ChiefOne.t60)) 100000 100000 Tryz.ChiefOne.p0 (Tryz.ChiefOne.d31.st 8 []) 1) = true := by kernel_rfl
noncomputable def Tryz.ChiefOne.t61 : List SE := ncL [⟨.bin .lss, (.int .i64 10), (ch 1001), (.bool true)⟩,
  ⟨.bin .gtr, (ch 1002), (.int .i64 99999), (.bool false)⟩,
  ⟨.bin .add, (ch 1002), (.int .i64 1), (ch 1003)⟩,
  ⟨.bin .add, (ch 1000), (.int .i64 10), (ch 1004)⟩,
  ⟨.bin .gtr, (ch 1004), (.int .i64 99999), (.bool false)⟩,
  ⟨.bin .neq, (ch 1002), (ch 1004), (.bool false)⟩,
  ⟨.bin .gtr, (ch 1002), (.int .i64 0), (.bool true)⟩,
  ⟨.bin .eql, (ch 1002), (.int .i64 0), (.bool false)⟩]
theorem Tryz.ChiefOne.i61 : Tryz.ChiefOne.d31.sub 8 [] (idl 8 Tryz.ChiefOne.d31.objs) (idA 3) (Tryz.ChiefOne.d31.st 8 []) = true := by kernel_rfl
theorem Tryz.ChiefOne.r61 : leafNext (fK (Tryz.Es Tryz.m4 (syOf Tryz.ChiefOne.t61)) 100000 100000 Tryz.ChiefOne.p0 (Tryz.ChiefOne.d31.st 8 []) 3) 8 Tryz.ChiefOne.d34 [(12, 12), (13, 18), (14, 14), (15, 15)] [(ch 1000), (ch 1001), (ch 1003)] = some Tryz.ChiefOne.p0 := by kernel_rfl
noncomputable def Tryz.ChiefOne.t62 : List SE := ncL [⟨.bin .lss, (.int .i64 10), (ch 1001), (.bool false)⟩]
theorem Tryz.ChiefOne.i62 : Tryz.ChiefOne.d31.sub 8 [] (idl 8 Tryz.ChiefOne.d31.objs) (idA 3) (Tryz.ChiefOne.d31.st 8 []) = true := by kernel_rfl
theorem Tryz.ChiefOne.r62 : leafFin (Tryz.Es Tryz.m4 (syOf Tryz.ChiefOne.t62)) Tryz.f3 (fK (Tryz.Es Tryz.m4 (syOf Tryz.ChiefOne.t62)) 100000 100000 Tryz.ChiefOne.p0 (Tryz.ChiefOne.d31.st 8 []) 1) = true := by kernel_rfl
noncomputable def Tryz.ChiefOne.t63 : List SE := ncL [⟨.bin .lss, (.int .i64 10), (ch 1001), (.bool true)⟩,
  ⟨.bin .gtr, (ch 1002), (.int .i64 99999), (.bool true)⟩,
  ⟨.bin .add, (ch 1000), (.int .i64 10), (ch 1003)⟩,
  ⟨.bin .gtr, (ch 1003), (.int .i64 99999), (.bool true)⟩]
theorem Tryz.ChiefOne.i63 : Tryz.ChiefOne.d32.sub 8 [] (idl 8 Tryz.ChiefOne.d32.objs) (idA 3) (Tryz.ChiefOne.d32.st 8 []) = true := by kernel_rfl
theorem Tryz.ChiefOne.r63 : leafFin (Tryz.Es Tryz.m4 (syOf Tryz.ChiefOne.t63)) Tryz.f3 (fK (Tryz.Es Tryz.m4 (syOf Tryz.ChiefOne.t63)) 100000 100000 Tryz.ChiefOne.p0 (Tryz.ChiefOne.d32.st 8 []) 1) = true := by kernel_rfl
noncomputable def Tryz.ChiefOne.t64 : List SE := ncL [⟨.bin .lss, (.int .i64 10), (ch 1001), (.bool true)⟩,
  ⟨.bin .gtr, (ch 1002), (.int .i64 99999), (.bool false)⟩,
  ⟨.bin .add, (ch 1002), (.int .i64 1), (ch 1003)⟩,
  ⟨.bin .add, (ch 1000), (.int .i64 10), (ch 1004)⟩,
  ⟨.bin .gtr, (ch 1004), (.int .i64 99999), (.bool false)⟩,
  ⟨.bin .neq, (ch 1002), (ch 1004), (.bool false)⟩,
  ⟨.bin .gtr, (ch 1002), (.int .i64 0), (.bool true)⟩,
  ⟨.bin .eql, (ch 1002), (.int .i64 0), (.bool false)⟩]
theorem Tryz.ChiefOne.i64 : Tryz.ChiefOne.d32.sub 8 [] (idl 8 Tryz.ChiefOne.d32.objs) (idA 3) (Tryz.ChiefOne.d32.st 8 []) = true := by kernel_rfl
theorem Tryz.ChiefOne.r64 : leafNext (fK (Tryz.Es Tryz.m4 (syOf Tryz.ChiefOne.t64)) 100000 100000 Tryz.ChiefOne.p0 (Tryz.ChiefOne.d32.st 8 []) 4) 8 Tryz.ChiefOne.d35 [(12, 12), (13, 18), (14, 14), (15, 15)] [(ch 1000), (ch 1001), (ch 1003)] = some Tryz.ChiefOne.p0 := by kernel_rfl
noncomputable def Tryz.ChiefOne.t65 : List SE := ncL [⟨.bin .lss, (.int .i64 10), (ch 1001), (.bool false)⟩]
theorem Tryz.ChiefOne.i65 : Tryz.ChiefOne.d32.sub 8 [] (idl 8 Tryz.ChiefOne.d32.objs) (idA 3) (Tryz.ChiefOne.d32.st 8 []) = true := by kernel_rfl
theorem Tryz.ChiefOne.r65 : leafFin (Tryz.Es Tryz.m4 (syOf Tryz.ChiefOne.t65)) Tryz.f3 (fK (Tryz.Es Tryz.m4 (syOf Tryz.ChiefOne.t65)) 100000 100000 Tryz.ChiefOne.p0 (Tryz.ChiefOne.d32.st 8 []) 1) = true := by kernel_rfl
noncomputable def Tryz.ChiefOne.t66 : List SE := ncL [⟨.bin .lss, (.int .i64 10), (ch 1001), (.bool true)⟩,
  ⟨.bin .gtr, (ch 1002), (.int .i64 99999), (.bool true)⟩,
  ⟨.bin .add, (ch 1000), (.int .i64 10), (ch 1003)⟩,
  ⟨.bin .gtr, (ch 1003), (.int .i64 99999), (.bool true)⟩]
theorem Tryz.ChiefOne.i66 : Tryz.ChiefOne.d33.sub 8 [] (idl 8 Tryz.ChiefOne.d33.objs) (idA 3) (Tryz.ChiefOne.d33.st 8 []) = true := by kernel_rfl
theorem Tryz.ChiefOne.r66 : leafFin (Tryz.Es Tryz.m4 (syOf Tryz.ChiefOne.t66)) Tryz.f3 (fK (Tryz.Es Tryz.m4 (syOf Tryz.ChiefOne.t66)) 100000 100000 Tryz.ChiefOne.p0 (Tryz.ChiefOne.d33.st 8 []) 1) = true := by kernel_rfl
noncomputable def Tryz.ChiefOne.t67 : List SE := ncL [⟨.bin .lss, (.int .i64 10), (ch 1001), (.bool true)⟩,
  ⟨.bin .gtr, (ch 1002), (.int .i64 99999), (.bool false)⟩,
  ⟨.bin .add, (ch 1002), (.int .i64 1), (ch 1003)⟩,
  ⟨.bin .add, (ch 1000), (.int .i64 10), (ch 1004)⟩,
  ⟨.bin .gtr, (ch 1004), (.int .i64 99999), (.bool false)⟩,
  ⟨.bin .neq, (ch 1002), (ch 1004), (.bool false)⟩,
  ⟨.bin .gtr, (ch 1002), (.int .i64 0), (.bool true)⟩,
  ⟨.bin .eql, (ch 1002), (.int .i64 0), (.bool false)⟩]
theorem Tryz.ChiefOne.i67 : Tryz.ChiefOne.d33.sub 8 [] (idl 8 Tryz.ChiefOne.d33.objs) (idA 3) (Tryz.ChiefOne.d33.st 8 []) = true := by kernel_rfl
theorem Tryz.ChiefOne.r67 : leafNext (fK (Tryz.Es Tryz.m4 (syOf Tryz.ChiefOne.t67)) 100000 100000 Tryz.ChiefOne.p0 (Tryz.ChiefOne.d33.st 8 []) 5) 8 Tryz.ChiefOne.d36 [(12, 12), (13, 18), (14, 14), (15, 15)] [(ch 1000), (ch 1001), (ch 1003)] = some Tryz.ChiefOne.p0 := by kernel_rfl
noncomputable def Tryz.ChiefOne.t68 : List SE := ncL [⟨.bin .lss, (.int .i64 10), (ch 1001), (.bool false)⟩]
theorem Tryz.ChiefOne.i68 : Tryz.ChiefOne.d33.sub 8 [] (idl 8 Tryz.ChiefOne.d33.objs) (idA 3) (Tryz.ChiefOne.d33.st 8 []) = true := by kernel_rfl
theorem Tryz.ChiefOne.r68 : leafFin (Tryz.Es Tryz.m4 (syOf Tryz.ChiefOne.t68)) Tryz.f3 (fK (Tryz.Es Tryz.m4 (syOf Tryz.ChiefOne.t68)) 100000 100000 Tryz.ChiefOne.p0 (Tryz.ChiefOne.d33.st 8 []) 1) = true := by kernel_rfl
noncomputable def Tryz.ChiefOne.t69 : List SE := ncL [⟨.bin .lss, (.int .i64 11), (ch 1001), (.bool true)⟩,
  ⟨.bin .gtr, (ch 1002), (.int .i64 99999), (.bool true)⟩,
  ⟨.bin .add, (ch 1000), (.int .i64 11), (ch 1003)⟩,
  ⟨.bin .gtr, (ch 1003), (.int .i64 99999), (.bool true)⟩]
theorem Tryz.ChiefOne.i69 : Tryz.ChiefOne.d34.sub 8 [] (idl 8 Tryz.ChiefOne.d34.objs) (idA 3) (Tryz.ChiefOne.d34.st 8 []) = true := by kernel_rfl
theorem Tryz.ChiefOne.r69 : leafFin (Tryz.Es Tryz.m4 (syOf Tryz.ChiefOne.t69)) Tryz.f3 (fK (Tryz.Es Tryz.m4 (syOf Tryz.ChiefOne.t69)) 100000 100000 Tryz.ChiefOne.p0 (Tryz.ChiefOne.d34.st 8 []) 1) = true := by kernel_rfl
noncomputable def Tryz.ChiefOne.t70 : List SE := ncL [⟨.bin .lss, (.int .i64 11), (ch 1001), (.bool true)⟩,
  ⟨.bin .gtr, (ch 1002), (.int .i64 99999), (.bool false)⟩,
  ⟨.bin .add, (ch 1002), (.int .i64 1), (ch 1003)⟩,
  ⟨.bin .add, (ch 1000), (.int .i64 11), (ch 1004)⟩,
  ⟨.bin .gtr, (ch 1004), (.int .i64 99999), (.bool false)⟩,
  ⟨.bin .neq, (ch 1002), (ch 1004), (.bool false)⟩,
  ⟨.bin .gtr, (ch 1002), (.int .i64 0), (.bool true)⟩,
  ⟨.bin .eql, (ch 1002), (.int .i64 0), (.bool false)⟩]
theorem Tryz.ChiefOne.i70 : Tryz.ChiefOne.d34.sub 8 [] (idl 8 Tryz.ChiefOne.d34.objs) (idA 3) (Tryz.ChiefOne.d34.st 8 []) = true := by kernel_rfl
theorem Tryz.ChiefOne.r70 : leafNext (fK (Tryz.Es Tryz.m4 (syOf Tryz.ChiefOne.t70)) 100000 100000 Tryz.ChiefOne.p0 (Tryz.ChiefOne.d34.st 8 []) 3) 8 Tryz.ChiefOne.d37 [(12, 12), (13, 18), (14, 14), (15, 15)] [(ch 1000), (ch 1001), (ch 1003)] = some Tryz.ChiefOne.p0 := by kernel_rfl
noncomputable def Tryz.ChiefOne.t71 : List SE := ncL [⟨.bin .lss, (.int .i64 11), (ch 1001), (.bool false)⟩]
theorem Tryz.ChiefOne.i71 : Tryz.ChiefOne.d34.sub 8 [] (idl 8 Tryz.ChiefOne.d34.objs) (idA 3) (Tryz.ChiefOne.d34.st 8 []) = true := by kernel_rfl
theorem Tryz.ChiefOne.r71 : leafFin (Tryz.Es Tryz.m4 (syOf Tryz.ChiefOne.t71)) Tryz.f3 (fK (Tryz.Es Tryz.m4 (syOf Tryz.ChiefOne.t71)) 100000 100000 Tryz.ChiefOne.p0 (Tryz.ChiefOne.d34.st 8 []) 1) = true := by kernel_rfl
noncomputable def Tryz.ChiefOne.t72 : List SE := ncL [⟨.bin .lss, (.int .i64 11), (ch 1001), (.bool true)⟩,
  ⟨.bin .gtr, (ch 1002), (.int .i64 99999), (.bool true)⟩,
  ⟨.bin .add, (ch 1000), (.int .i64 11), (ch 1003)⟩,
  ⟨.bin .gtr, (ch 1003), (.int .i64 99999), (.bool true)⟩]
theorem Tryz.ChiefOne.i72 : Tryz.ChiefOne.d35.sub 8 [] (idl 8 Tryz.ChiefOne.d35.objs) (idA 3) (Tryz.ChiefOne.d35.st 8 []) = true := by kernel_rfl
theorem Tryz.ChiefOne.r72 : leafFin (Tryz.Es Tryz.m4 (syOf Tryz.ChiefOne.t72)) Tryz.f3 (fK (Tryz.Es Tryz.m4 (syOf Tryz.ChiefOne.t72)) 100000 100000 Tryz.ChiefOne.p0 (Tryz.ChiefOne.d35.st 8 []) 1) = true := by kernel_rfl
noncomputable def Tryz.ChiefOne.t73 : List SE := ncL [⟨.bin .lss, (.int .i64 11), (ch 1001), (.bool true)⟩,
  ⟨.bin .gtr, (ch 1002), (.int .i64 99999), (.bool false)⟩,
  ⟨.bin .add, (ch 1002), (.int .i64 1), (ch 1003)⟩,
  ⟨.bin .add, (ch 1000), (.int .i64 11), (ch 1004)⟩,
  ⟨.bin .gtr, (ch 1004), (.int .i64 99999), (.bool false)⟩,
  ⟨.bin .neq, (ch 1002), (ch 1004), (.bool false)⟩,
  ⟨.bin .gtr, (ch 1002), (.int .i64 0), (.bool true)⟩,
  ⟨.bin .eql, (ch 1002), (.int .i64 0), (.bool false)⟩]
theorem Tryz.ChiefOne.i73 : Tryz.ChiefOne.d35.sub 8 [] (idl 8 Tryz.ChiefOne.d35.objs) (idA 3) (Tryz.ChiefOne.d35.st 8 []) = true := by kernel_rfl
theorem Tryz.ChiefOne.r73 : leafNext (fK (Tryz.Es Tryz.m4 (syOf Tryz.ChiefOne.t73)) 100000 100000 Tryz.ChiefOne.p0 (Tryz.ChiefOne.d35.st 8 []) 4) 8 Tryz.ChiefOne.d38 [(12, 12), (13, 18), (14, 14), (15, 15)] [(ch 1000), (ch 1001), (ch 1003)] = some Tryz.ChiefOne.p0 := by kernel_rfl
noncomputable def Tryz.ChiefOne.t74 : List SE := ncL [⟨.bin .lss, (.int .i64 11), (ch 1001), (.bool false)⟩]
theorem Tryz.ChiefOne.i74 : Tryz.ChiefOne.d35.sub 8 [] (idl 8 Tryz.ChiefOne.d35.objs) (idA 3) (Tryz.ChiefOne.d35.st 8 []) = true := by kernel_rfl
theorem Tryz.ChiefOne.r74 : leafFin (Tryz.Es Tryz.m4 (syOf Tryz.ChiefOne.t74)) Tryz.f3 (fK (Tryz.Es Tryz.m4 (syOf Tryz.ChiefOne.t74)) 100000 100000 Tryz.ChiefOne.p0 (Tryz.ChiefOne.d35.st 8 []) 1) = true := by kernel_rfl
noncomputable def Tryz.ChiefOne.t75 : List SE := ncL [⟨.bin .lss, (.int .i64 11), (ch 1001), (.bool true)⟩,
  ⟨.bin .gtr, (ch 1002), (.int .i64 99999), (.bool true)⟩,
  ⟨.bin .add, (ch 1000), (.int .i64 11), (ch 1003)⟩,
  ⟨.bin .gtr, (ch 1003), (.int .i64 99999), (.bool true)⟩]
theorem Tryz.ChiefOne.i75 : Tryz.ChiefOne.d36.sub 8 [] (idl 8 Tryz.ChiefOne.d36.objs) (idA 3) (Tryz.ChiefOne.d36.st 8 []) = true := by kernel_rfl
theorem Tryz.ChiefOne.r75 : leafFin (Tryz.Es Tryz.m4 (syOf Tryz.ChiefOne.t75)) Tryz.f3 (fK (Tryz.Es Tryz.m4 (syOf Tryz.ChiefOne.t75)) 100000 100000 Tryz.ChiefOne.p0 (Tryz.ChiefOne.d36.st 8 []) 1) = true := by kernel_rfl
noncomputable def Tryz.ChiefOne.t76 : List SE := ncL [⟨.bin .lss, (.int .i64 11), (ch 1001), (.bool true)⟩,
  ⟨.bin .gtr, (ch 1002), (.int .i64 99999), (.bool false)⟩,
  ⟨.bin .add, (ch 1002), (.int .i64 1), (ch 1003)⟩,
  ⟨.bin .add, (ch 1000), (.int .i64 11), (ch 1004)⟩,
  ⟨.bin .gtr, (ch 1004), (.int .i64 99999), (.bool false)⟩,
  ⟨.bin .neq, (ch 1002), (ch 1004), (.bool false)⟩,
  ⟨.bin .gtr, (ch 1002), (.int .i64 0), (.bool true)⟩,
  ⟨.bin .eql, (ch 1002), (.int .i64 0), (.bool false)⟩]
theorem Tryz.ChiefOne.i76 : Tryz.ChiefOne.d36.sub 8 [] (idl 8 Tryz.ChiefOne.d36.objs) (idA 3) (Tryz.ChiefOne.d36.st 8 []) = true := by kernel_rfl
theorem Tryz.ChiefOne.r76 : leafNext (fK (Tryz.Es Tryz.m4 (syOf Tryz.ChiefOne.t76)) 100000 100000 Tryz.ChiefOne.p0 (Tryz.ChiefOne.d36.st 8 []) 5) 8 Tryz.ChiefOne.d39 [(12, 12), (13, 18), (14, 14), (15, 15)] [(ch 1000), (ch 1001), (ch 1003)] = some Tryz.ChiefOne.p0 := by kernel_rfl
noncomputable def Tryz.ChiefOne.t77 : List SE := ncL [⟨.bin .lss, (.int .i64 11), (ch 1001), (.bool false)⟩]
theorem Tryz.ChiefOne.i77 : Tryz.ChiefOne.d36.sub 8 [] (idl 8 Tryz.ChiefOne.d36.objs) (idA 3) (Tryz.ChiefOne.d36.st 8 []) = true := by kernel_rfl
theorem Tryz.ChiefOne.r77 : leafFin (Tryz.Es Tryz.m4 (syOf Tryz.ChiefOne.t77)) Tryz.f3 (fK (Tryz.Es Tryz.m4 (syOf Tryz.ChiefOne.t77)) 100000 100000 Tryz.ChiefOne.p0 (Tryz.ChiefOne.d36.st 8 []) 1) = true := by kernel_rfl
noncomputable def Tryz.ChiefOne.t78 : List SE := ncL [⟨.bin .lss, (.int .i64 12), (ch 1001), (.bool false)⟩]
theorem Tryz.ChiefOne.i78 : Tryz.ChiefOne.d37.sub 8 [] (idl 8 Tryz.ChiefOne.d37.objs) (idA 3) (Tryz.ChiefOne.d37.st 8 []) = true := by kernel_rfl
theorem Tryz.ChiefOne.r78 : leafFin (Tryz.Es Tryz.m4 (syOf Tryz.ChiefOne.t78)) Tryz.f3 (fK (Tryz.Es Tryz.m4 (syOf Tryz.ChiefOne.t78)) 100000 100000 Tryz.ChiefOne.p0 (Tryz.ChiefOne.d37.st 8 []) 1) = true := by kernel_rfl
noncomputable def Tryz.ChiefOne.t79 : List SE := ncL [⟨.bin .lss, (.int .i64 12), (ch 1001), (.bool false)⟩]
theorem Tryz.ChiefOne.i79 : Tryz.ChiefOne.d38.sub 8 [] (idl 8 Tryz.ChiefOne.d38.objs) (idA 3) (Tryz.ChiefOne.d38.st 8 []) = true := by kernel_rfl
theorem Tryz.ChiefOne.r79 : leafFin (Tryz.Es Tryz.m4 (syOf Tryz.ChiefOne.t79)) Tryz.f3 (fK (Tryz.Es Tryz.m4 (syOf Tryz.ChiefOne.t79)) 100000 100000 Tryz.ChiefOne.p0 (Tryz.ChiefOne.d38.st 8 []) 1) = true := by kernel_rfl
noncomputable def Tryz.ChiefOne.t80 : List SE := ncL [⟨.bin .lss, (.int .i64 12), (ch 1001), (.bool false)⟩]
theorem Tryz.ChiefOne.i80 : Tryz.ChiefOne.d39.sub 8 [] (idl 8 Tryz.ChiefOne.d39.objs) (idA 3) (Tryz.ChiefOne.d39.st 8 []) = true := by kernel_rfl
theorem Tryz.ChiefOne.r80 : leafFin (Tryz.Es Tryz.m4 (syOf Tryz.ChiefOne.t80)) Tryz.f3 (fK (Tryz.Es Tryz.m4 (syOf Tryz.ChiefOne.t80)) 100000 100000 Tryz.ChiefOne.p0 (Tryz.ChiefOne.d39.st 8 []) 1) = true := by kernel_rfl
end
end Go.Proofs
