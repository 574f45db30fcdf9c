/- Pieces of the law's run, from node to node, answered by the executor. No conditions. -/
import Derived.Test.YtjfjhmdhchjjdaaGreatDoorVSeatLogOverNd
set_option linter.all false
namespace Go.Proofs
open Go Go.Vsx
set_option maxRecDepth 1000000
noncomputable section
noncomputable def Zw.t4 : List SE := ncL [⟨.bin .rem, (ch 1000), (.int .i64 12), (ch 1002)⟩,
  ⟨.bin .add, (ch 1002), (.int .i64 12), (ch 1003)⟩,
  ⟨.bin .rem, (ch 1003), (.int .i64 12), (.int .i64 0)⟩,
  ⟨.bin .rem, (ch 1001), (.int .i64 14), (ch 1004)⟩,
  ⟨.bin .add, (ch 1004), (.int .i64 14), (ch 1005)⟩,
  ⟨.bin .rem, (ch 1005), (.int .i64 14), (.int .i64 4)⟩]
theorem Zw.i4 : Zw.d0.sub 8 [] (idl 8 Zw.d0.objs) (idA 2) (Zw.d0.st 8 []) = true := by kernel_rfl
theorem Zw.r4 : leafFin (Tryz.Es Tryz.m3 (syOf Zw.t4)) Tryz.f4 (fK (Tryz.Es Tryz.m3 (syOf Zw.t4)) 100000 100000 Zw.pS (Zw.d0.st 8 []) 0) = true := by kernel_rfl
noncomputable def Zw.t10 : List SE := ncL [⟨.bin .rem, (ch 1000), (.int .i64 12), (ch 1002)⟩,
  ⟨.bin .add, (ch 1002), (.int .i64 12), (ch 1003)⟩,
  ⟨.bin .rem, (ch 1003), (.int .i64 12), (.int .i64 0)⟩,
  ⟨.bin .rem, (ch 1001), (.int .i64 14), (ch 1004)⟩,
  ⟨.bin .add, (ch 1004), (.int .i64 14), (ch 1005)⟩,
  ⟨.bin .rem, (ch 1005), (.int .i64 14), (.int .i64 10)⟩]
theorem Zw.i10 : Zw.d0.sub 8 [] (idl 8 Zw.d0.objs) (idA 2) (Zw.d0.st 8 []) = true := by kernel_rfl
theorem Zw.r10 : leafFin (Tryz.Es Tryz.m3 (syOf Zw.t10)) Tryz.f4 (fK (Tryz.Es Tryz.m3 (syOf Zw.t10)) 100000 100000 Zw.pS (Zw.d0.st 8 []) 0) = true := by kernel_rfl
noncomputable def Zw.t16 : List SE := ncL [⟨.bin .rem, (ch 1000), (.int .i64 12), (ch 1002)⟩,
  ⟨.bin .add, (ch 1002), (.int .i64 12), (ch 1003)⟩,
  ⟨.bin .rem, (ch 1003), (.int .i64 12), (.int .i64 1)⟩,
  ⟨.bin .rem, (ch 1001), (.int .i64 14), (ch 1004)⟩,
  ⟨.bin .add, (ch 1004), (.int .i64 14), (ch 1005)⟩,
  ⟨.bin .rem, (ch 1005), (.int .i64 14), (.int .i64 2)⟩]
theorem Zw.i16 : Zw.d0.sub 8 [] (idl 8 Zw.d0.objs) (idA 2) (Zw.d0.st 8 []) = true := by kernel_rfl
theorem Zw.r16 : leafFin (Tryz.Es Tryz.m3 (syOf Zw.t16)) Tryz.f4 (fK (Tryz.Es Tryz.m3 (syOf Zw.t16)) 100000 100000 Zw.pS (Zw.d0.st 8 []) 0) = true := by kernel_rfl
noncomputable def Zw.t22 : List SE := ncL [⟨.bin .rem, (ch 1000), (.int .i64 12), (ch 1002)⟩,
  ⟨.bin .add, (ch 1002), (.int .i64 12), (ch 1003)⟩,
  ⟨.bin .rem, (ch 1003), (.int .i64 12), (.int .i64 1)⟩,
  ⟨.bin .rem, (ch 1001), (.int .i64 14), (ch 1004)⟩,
  ⟨.bin .add, (ch 1004), (.int .i64 14), (ch 1005)⟩,
  ⟨.bin .rem, (ch 1005), (.int .i64 14), (.int .i64 8)⟩]
theorem Zw.i22 : Zw.d0.sub 8 [] (idl 8 Zw.d0.objs) (idA 2) (Zw.d0.st 8 []) = true := by kernel_rfl
theorem Zw.r22 : leafFin (Tryz.Es Tryz.m3 (syOf Zw.t22)) Tryz.f4 (fK (Tryz.Es Tryz.m3 (syOf Zw.t22)) 100000 100000 Zw.pS (Zw.d0.st 8 []) 0) = true := by kernel_rfl
noncomputable def Zw.t28 : List SE := ncL [⟨.bin .rem, (ch 1000), (.int .i64 12), (ch 1002)⟩,
  ⟨.bin .add, (ch 1002), (.int .i64 12), (ch 1003)⟩,
  ⟨.bin .rem, (ch 1003), (.int .i64 12), (.int .i64 2)⟩,
  ⟨.bin .rem, (ch 1001), (.int .i64 14), (ch 1004)⟩,
  ⟨.bin .add, (ch 1004), (.int .i64 14), (ch 1005)⟩,
  ⟨.bin .rem, (ch 1005), (.int .i64 14), (.int .i64 0)⟩]
theorem Zw.i28 : Zw.d0.sub 8 [] (idl 8 Zw.d0.objs) (idA 2) (Zw.d0.st 8 []) = true := by kernel_rfl
theorem Zw.r28 : leafFin (Tryz.Es Tryz.m3 (syOf Zw.t28)) Tryz.f4 (fK (Tryz.Es Tryz.m3 (syOf Zw.t28)) 100000 100000 Zw.pS (Zw.d0.st 8 []) 0) = true := by kernel_rfl
noncomputable def Zw.t34 : List SE := ncL [⟨.bin .rem, (ch 1000), (.int .i64 12), (ch 1002)⟩,
  ⟨.bin .add, (ch 1002), (.int .i64 12), (ch 1003)⟩,
  ⟨.bin .rem, (ch 1003), (.int .i64 12), (.int .i64 2)⟩,
  ⟨.bin .rem, (ch 1001), (.int .i64 14), (ch 1004)⟩,
  ⟨.bin .add, (ch 1004), (.int .i64 14), (ch 1005)⟩,
  ⟨.bin .rem, (ch 1005), (.int .i64 14), (.int .i64 6)⟩]
theorem Zw.i34 : Zw.d0.sub 8 [] (idl 8 Zw.d0.objs) (idA 2) (Zw.d0.st 8 []) = true := by kernel_rfl
theorem Zw.r34 : leafFin (Tryz.Es Tryz.m3 (syOf Zw.t34)) Tryz.f4 (fK (Tryz.Es Tryz.m3 (syOf Zw.t34)) 100000 100000 Zw.pS (Zw.d0.st 8 []) 0) = true := by kernel_rfl
noncomputable def Zw.t40 : List SE := ncL [⟨.bin .rem, (ch 1000), (.int .i64 12), (ch 1002)⟩,
  ⟨.bin .add, (ch 1002), (.int .i64 12), (ch 1003)⟩,
  ⟨.bin .rem, (ch 1003), (.int .i64 12), (.int .i64 2)⟩,
  ⟨.bin .rem, (ch 1001), (.int .i64 14), (ch 1004)⟩,
  ⟨.bin .add, (ch 1004), (.int .i64 14), (ch 1005)⟩,
  ⟨.bin .rem, (ch 1005), (.int .i64 14), (.int .i64 12)⟩]
theorem Zw.i40 : Zw.d0.sub 8 [] (idl 8 Zw.d0.objs) (idA 2) (Zw.d0.st 8 []) = true := by kernel_rfl
theorem Zw.r40 : leafFin (Tryz.Es Tryz.m3 (syOf Zw.t40)) Tryz.f4 (fK (Tryz.Es Tryz.m3 (syOf Zw.t40)) 100000 100000 Zw.pS (Zw.d0.st 8 []) 0) = true := by kernel_rfl
noncomputable def Zw.t46 : List SE := ncL [⟨.bin .rem, (ch 1000), (.int .i64 12), (ch 1002)⟩,
  ⟨.bin .add, (ch 1002), (.int .i64 12), (ch 1003)⟩,
  ⟨.bin .rem, (ch 1003), (.int .i64 12), (.int .i64 3)⟩,
  ⟨.bin .rem, (ch 1001), (.int .i64 14), (ch 1004)⟩,
  ⟨.bin .add, (ch 1004), (.int .i64 14), (ch 1005)⟩,
  ⟨.bin .rem, (ch 1005), (.int .i64 14), (.int .i64 4)⟩]
theorem Zw.i46 : Zw.d0.sub 8 [] (idl 8 Zw.d0.objs) (idA 2) (Zw.d0.st 8 []) = true := by kernel_rfl
theorem Zw.r46 : leafFin (Tryz.Es Tryz.m3 (syOf Zw.t46)) Tryz.f4 (fK (Tryz.Es Tryz.m3 (syOf Zw.t46)) 100000 100000 Zw.pS (Zw.d0.st 8 []) 0) = true := by kernel_rfl
noncomputable def Zw.t52 : List SE := ncL [⟨.bin .rem, (ch 1000), (.int .i64 12), (ch 1002)⟩,
  ⟨.bin .add, (ch 1002), (.int .i64 12), (ch 1003)⟩,
  ⟨.bin .rem, (ch 1003), (.int .i64 12), (.int .i64 3)⟩,
  ⟨.bin .rem, (ch 1001), (.int .i64 14), (ch 1004)⟩,
  ⟨.bin .add, (ch 1004), (.int .i64 14), (ch 1005)⟩,
  ⟨.bin .rem, (ch 1005), (.int .i64 14), (.int .i64 10)⟩]
theorem Zw.i52 : Zw.d0.sub 8 [] (idl 8 Zw.d0.objs) (idA 2) (Zw.d0.st 8 []) = true := by kernel_rfl
theorem Zw.r52 : leafFin (Tryz.Es Tryz.m3 (syOf Zw.t52)) Tryz.f4 (fK (Tryz.Es Tryz.m3 (syOf Zw.t52)) 100000 100000 Zw.pS (Zw.d0.st 8 []) 0) = true := by kernel_rfl
noncomputable def Zw.t58 : List SE := ncL [⟨.bin .rem, (ch 1000), (.int .i64 12), (ch 1002)⟩,
  ⟨.bin .add, (ch 1002), (.int .i64 12), (ch 1003)⟩,
  ⟨.bin .rem, (ch 1003), (.int .i64 12), (.int .i64 4)⟩,
  ⟨.bin .rem, (ch 1001), (.int .i64 14), (ch 1004)⟩,
  ⟨.bin .add, (ch 1004), (.int .i64 14), (ch 1005)⟩,
  ⟨.bin .rem, (ch 1005), (.int .i64 14), (.int .i64 2)⟩]
theorem Zw.i58 : Zw.d0.sub 8 [] (idl 8 Zw.d0.objs) (idA 2) (Zw.d0.st 8 []) = true := by kernel_rfl
theorem Zw.r58 : leafFin (Tryz.Es Tryz.m3 (syOf Zw.t58)) Tryz.f4 (fK (Tryz.Es Tryz.m3 (syOf Zw.t58)) 100000 100000 Zw.pS (Zw.d0.st 8 []) 0) = true := by kernel_rfl
noncomputable def Zw.t64 : List SE := ncL [⟨.bin .rem, (ch 1000), (.int .i64 12), (ch 1002)⟩,
  ⟨.bin .add, (ch 1002), (.int .i64 12), (ch 1003)⟩,
  ⟨.bin .rem, (ch 1003), (.int .i64 12), (.int .i64 4)⟩,
  ⟨.bin .rem, (ch 1001), (.int .i64 14), (ch 1004)⟩,
  ⟨.bin .add, (ch 1004), (.int .i64 14), (ch 1005)⟩,
  ⟨.bin .rem, (ch 1005), (.int .i64 14), (.int .i64 8)⟩]
theorem Zw.i64 : Zw.d0.sub 8 [] (idl 8 Zw.d0.objs) (idA 2) (Zw.d0.st 8 []) = true := by kernel_rfl
theorem Zw.r64 : leafFin (Tryz.Es Tryz.m3 (syOf Zw.t64)) Tryz.f4 (fK (Tryz.Es Tryz.m3 (syOf Zw.t64)) 100000 100000 Zw.pS (Zw.d0.st 8 []) 0) = true := by kernel_rfl
noncomputable def Zw.t70 : List SE := ncL [⟨.bin .rem, (ch 1000), (.int .i64 12), (ch 1002)⟩,
  ⟨.bin .add, (ch 1002), (.int .i64 12), (ch 1003)⟩,
  ⟨.bin .rem, (ch 1003), (.int .i64 12), (.int .i64 5)⟩,
  ⟨.bin .rem, (ch 1001), (.int .i64 14), (ch 1004)⟩,
  ⟨.bin .add, (ch 1004), (.int .i64 14), (ch 1005)⟩,
  ⟨.bin .rem, (ch 1005), (.int .i64 14), (.int .i64 0)⟩]
theorem Zw.i70 : Zw.d0.sub 8 [] (idl 8 Zw.d0.objs) (idA 2) (Zw.d0.st 8 []) = true := by kernel_rfl
theorem Zw.r70 : leafFin (Tryz.Es Tryz.m3 (syOf Zw.t70)) Tryz.f4 (fK (Tryz.Es Tryz.m3 (syOf Zw.t70)) 100000 100000 Zw.pS (Zw.d0.st 8 []) 0) = true := by kernel_rfl
noncomputable def Zw.t76 : List SE := ncL [⟨.bin .rem, (ch 1000), (.int .i64 12), (ch 1002)⟩,
  ⟨.bin .add, (ch 1002), (.int .i64 12), (ch 1003)⟩,
  ⟨.bin .rem, (ch 1003), (.int .i64 12), (.int .i64 5)⟩,
  ⟨.bin .rem, (ch 1001), (.int .i64 14), (ch 1004)⟩,
  ⟨.bin .add, (ch 1004), (.int .i64 14), (ch 1005)⟩,
  ⟨.bin .rem, (ch 1005), (.int .i64 14), (.int .i64 6)⟩]
theorem Zw.i76 : Zw.d0.sub 8 [] (idl 8 Zw.d0.objs) (idA 2) (Zw.d0.st 8 []) = true := by kernel_rfl
theorem Zw.r76 : leafFin (Tryz.Es Tryz.m3 (syOf Zw.t76)) Tryz.f4 (fK (Tryz.Es Tryz.m3 (syOf Zw.t76)) 100000 100000 Zw.pS (Zw.d0.st 8 []) 0) = true := by kernel_rfl
noncomputable def Zw.t82 : List SE := ncL [⟨.bin .rem, (ch 1000), (.int .i64 12), (ch 1002)⟩,
  ⟨.bin .add, (ch 1002), (.int .i64 12), (ch 1003)⟩,
  ⟨.bin .rem, (ch 1003), (.int .i64 12), (.int .i64 5)⟩,
  ⟨.bin .rem, (ch 1001), (.int .i64 14), (ch 1004)⟩,
  ⟨.bin .add, (ch 1004), (.int .i64 14), (ch 1005)⟩,
  ⟨.bin .rem, (ch 1005), (.int .i64 14), (.int .i64 12)⟩]
theorem Zw.i82 : Zw.d0.sub 8 [] (idl 8 Zw.d0.objs) (idA 2) (Zw.d0.st 8 []) = true := by kernel_rfl
theorem Zw.r82 : leafFin (Tryz.Es Tryz.m3 (syOf Zw.t82)) Tryz.f4 (fK (Tryz.Es Tryz.m3 (syOf Zw.t82)) 100000 100000 Zw.pS (Zw.d0.st 8 []) 0) = true := by kernel_rfl
noncomputable def Zw.t88 : List SE := ncL [⟨.bin .rem, (ch 1000), (.int .i64 12), (ch 1002)⟩,
  ⟨.bin .add, (ch 1002), (.int .i64 12), (ch 1003)⟩,
  ⟨.bin .rem, (ch 1003), (.int .i64 12), (.int .i64 6)⟩,
  ⟨.bin .rem, (ch 1001), (.int .i64 14), (ch 1004)⟩,
  ⟨.bin .add, (ch 1004), (.int .i64 14), (ch 1005)⟩,
  ⟨.bin .rem, (ch 1005), (.int .i64 14), (.int .i64 4)⟩]
theorem Zw.i88 : Zw.d0.sub 8 [] (idl 8 Zw.d0.objs) (idA 2) (Zw.d0.st 8 []) = true := by kernel_rfl
theorem Zw.r88 : leafFin (Tryz.Es Tryz.m3 (syOf Zw.t88)) Tryz.f4 (fK (Tryz.Es Tryz.m3 (syOf Zw.t88)) 100000 100000 Zw.pS (Zw.d0.st 8 []) 0) = true := by kernel_rfl
noncomputable def Zw.t94 : List SE := ncL [⟨.bin .rem, (ch 1000), (.int .i64 12), (ch 1002)⟩,
  ⟨.bin .add, (ch 1002), (.int .i64 12), (ch 1003)⟩,
  ⟨.bin .rem, (ch 1003), (.int .i64 12), (.int .i64 6)⟩,
  ⟨.bin .rem, (ch 1001), (.int .i64 14), (ch 1004)⟩,
  ⟨.bin .add, (ch 1004), (.int .i64 14), (ch 1005)⟩,
  ⟨.bin .rem, (ch 1005), (.int .i64 14), (.int .i64 10)⟩]
theorem Zw.i94 : Zw.d0.sub 8 [] (idl 8 Zw.d0.objs) (idA 2) (Zw.d0.st 8 []) = true := by kernel_rfl
theorem Zw.r94 : leafFin (Tryz.Es Tryz.m3 (syOf Zw.t94)) Tryz.f4 (fK (Tryz.Es Tryz.m3 (syOf Zw.t94)) 100000 100000 Zw.pS (Zw.d0.st 8 []) 0) = true := by kernel_rfl
noncomputable def Zw.t100 : List SE := ncL [⟨.bin .rem, (ch 1000), (.int .i64 12), (ch 1002)⟩,
  ⟨.bin .add, (ch 1002), (.int .i64 12), (ch 1003)⟩,
  ⟨.bin .rem, (ch 1003), (.int .i64 12), (.int .i64 7)⟩,
  ⟨.bin .rem, (ch 1001), (.int .i64 14), (ch 1004)⟩,
  ⟨.bin .add, (ch 1004), (.int .i64 14), (ch 1005)⟩,
  ⟨.bin .rem, (ch 1005), (.int .i64 14), (.int .i64 2)⟩]
theorem Zw.i100 : Zw.d0.sub 8 [] (idl 8 Zw.d0.objs) (idA 2) (Zw.d0.st 8 []) = true := by kernel_rfl
theorem Zw.r100 : leafFin (Tryz.Es Tryz.m3 (syOf Zw.t100)) Tryz.f4 (fK (Tryz.Es Tryz.m3 (syOf Zw.t100)) 100000 100000 Zw.pS (Zw.d0.st 8 []) 0) = true := by kernel_rfl
noncomputable def Zw.t106 : List SE := ncL [⟨.bin .rem, (ch 1000), (.int .i64 12), (ch 1002)⟩,
  ⟨.bin .add, (ch 1002), (.int .i64 12), (ch 1003)⟩,
  ⟨.bin .rem, (ch 1003), (.int .i64 12), (.int .i64 7)⟩,
  ⟨.bin .rem, (ch 1001), (.int .i64 14), (ch 1004)⟩,
  ⟨.bin .add, (ch 1004), (.int .i64 14), (ch 1005)⟩,
  ⟨.bin .rem, (ch 1005), (.int .i64 14), (.int .i64 8)⟩]
theorem Zw.i106 : Zw.d0.sub 8 [] (idl 8 Zw.d0.objs) (idA 2) (Zw.d0.st 8 []) = true := by kernel_rfl
theorem Zw.r106 : leafFin (Tryz.Es Tryz.m3 (syOf Zw.t106)) Tryz.f4 (fK (Tryz.Es Tryz.m3 (syOf Zw.t106)) 100000 100000 Zw.pS (Zw.d0.st 8 []) 0) = true := by kernel_rfl
noncomputable def Zw.t112 : List SE := ncL [⟨.bin .rem, (ch 1000), (.int .i64 12), (ch 1002)⟩,
  ⟨.bin .add, (ch 1002), (.int .i64 12), (ch 1003)⟩,
  ⟨.bin .rem, (ch 1003), (.int .i64 12), (.int .i64 8)⟩,
  ⟨.bin .rem, (ch 1001), (.int .i64 14), (ch 1004)⟩,
  ⟨.bin .add, (ch 1004), (.int .i64 14), (ch 1005)⟩,
  ⟨.bin .rem, (ch 1005), (.int .i64 14), (.int .i64 0)⟩]
theorem Zw.i112 : Zw.d0.sub 8 [] (idl 8 Zw.d0.objs) (idA 2) (Zw.d0.st 8 []) = true := by kernel_rfl
theorem Zw.r112 : leafFin (Tryz.Es Tryz.m3 (syOf Zw.t112)) Tryz.f4 (fK (Tryz.Es Tryz.m3 (syOf Zw.t112)) 100000 100000 Zw.pS (Zw.d0.st 8 []) 0) = true := by kernel_rfl
noncomputable def Zw.t118 : List SE := ncL [⟨.bin .rem, (ch 1000), (.int .i64 12), (ch 1002)⟩,
  ⟨.bin .add, (ch 1002), (.int .i64 12), (ch 1003)⟩,
  ⟨.bin .rem, (ch 1003), (.int .i64 12), (.int .i64 8)⟩,
  ⟨.bin .rem, (ch 1001), (.int .i64 14), (ch 1004)⟩,
  ⟨.bin .add, (ch 1004), (.int .i64 14), (ch 1005)⟩,
  ⟨.bin .rem, (ch 1005), (.int .i64 14), (.int .i64 6)⟩]
theorem Zw.i118 : Zw.d0.sub 8 [] (idl 8 Zw.d0.objs) (idA 2) (Zw.d0.st 8 []) = true := by kernel_rfl
theorem Zw.r118 : leafFin (Tryz.Es Tryz.m3 (syOf Zw.t118)) Tryz.f4 (fK (Tryz.Es Tryz.m3 (syOf Zw.t118)) 100000 100000 Zw.pS (Zw.d0.st 8 []) 0) = true := by kernel_rfl
noncomputable def Zw.t124 : List SE := ncL [⟨.bin .rem, (ch 1000), (.int .i64 12), (ch 1002)⟩,
  ⟨.bin .add, (ch 1002), (.int .i64 12), (ch 1003)⟩,
  ⟨.bin .rem, (ch 1003), (.int .i64 12), (.int .i64 8)⟩,
  ⟨.bin .rem, (ch 1001), (.int .i64 14), (ch 1004)⟩,
  ⟨.bin .add, (ch 1004), (.int .i64 14), (ch 1005)⟩,
  ⟨.bin .rem, (ch 1005), (.int .i64 14), (.int .i64 12)⟩]
theorem Zw.i124 : Zw.d0.sub 8 [] (idl 8 Zw.d0.objs) (idA 2) (Zw.d0.st 8 []) = true := by kernel_rfl
theorem Zw.r124 : leafFin (Tryz.Es Tryz.m3 (syOf Zw.t124)) Tryz.f4 (fK (Tryz.Es Tryz.m3 (syOf Zw.t124)) 100000 100000 Zw.pS (Zw.d0.st 8 []) 0) = true := by kernel_rfl
noncomputable def Zw.t130 : List SE := ncL [⟨.bin .rem, (ch 1000), (.int .i64 12), (ch 1002)⟩,
  ⟨.bin .add, (ch 1002), (.int .i64 12), (ch 1003)⟩,
  ⟨.bin .rem, (ch 1003), (.int .i64 12), (.int .i64 9)⟩,
  ⟨.bin .rem, (ch 1001), (.int .i64 14), (ch 1004)⟩,
  ⟨.bin .add, (ch 1004), (.int .i64 14), (ch 1005)⟩,
  ⟨.bin .rem, (ch 1005), (.int .i64 14), (.int .i64 4)⟩]
theorem Zw.i130 : Zw.d0.sub 8 [] (idl 8 Zw.d0.objs) (idA 2) (Zw.d0.st 8 []) = true := by kernel_rfl
theorem Zw.r130 : leafFin (Tryz.Es Tryz.m3 (syOf Zw.t130)) Tryz.f4 (fK (Tryz.Es Tryz.m3 (syOf Zw.t130)) 100000 100000 Zw.pS (Zw.d0.st 8 []) 0) = true := by kernel_rfl
noncomputable def Zw.t136 : List SE := ncL [⟨.bin .rem, (ch 1000), (.int .i64 12), (ch 1002)⟩,
  ⟨.bin .add, (ch 1002), (.int .i64 12), (ch 1003)⟩,
  ⟨.bin .rem, (ch 1003), (.int .i64 12), (.int .i64 9)⟩,
  ⟨.bin .rem, (ch 1001), (.int .i64 14), (ch 1004)⟩,
  ⟨.bin .add, (ch 1004), (.int .i64 14), (ch 1005)⟩,
  ⟨.bin .rem, (ch 1005), (.int .i64 14), (.int .i64 10)⟩]
theorem Zw.i136 : Zw.d0.sub 8 [] (idl 8 Zw.d0.objs) (idA 2) (Zw.d0.st 8 []) = true := by kernel_rfl
theorem Zw.r136 : leafFin (Tryz.Es Tryz.m3 (syOf Zw.t136)) Tryz.f4 (fK (Tryz.Es Tryz.m3 (syOf Zw.t136)) 100000 100000 Zw.pS (Zw.d0.st 8 []) 0) = true := by kernel_rfl
noncomputable def Zw.t142 : List SE := ncL [⟨.bin .rem, (ch 1000), (.int .i64 12), (ch 1002)⟩,
  ⟨.bin .add, (ch 1002), (.int .i64 12), (ch 1003)⟩,
  ⟨.bin .rem, (ch 1003), (.int .i64 12), (.int .i64 10)⟩,
  ⟨.bin .rem, (ch 1001), (.int .i64 14), (ch 1004)⟩,
  ⟨.bin .add, (ch 1004), (.int .i64 14), (ch 1005)⟩,
  ⟨.bin .rem, (ch 1005), (.int .i64 14), (.int .i64 2)⟩]
theorem Zw.i142 : Zw.d0.sub 8 [] (idl 8 Zw.d0.objs) (idA 2) (Zw.d0.st 8 []) = true := by kernel_rfl
theorem Zw.r142 : leafFin (Tryz.Es Tryz.m3 (syOf Zw.t142)) Tryz.f4 (fK (Tryz.Es Tryz.m3 (syOf Zw.t142)) 100000 100000 Zw.pS (Zw.d0.st 8 []) 0) = true := by kernel_rfl
noncomputable def Zw.t148 : List SE := ncL [⟨.bin .rem, (ch 1000), (.int .i64 12), (ch 1002)⟩,
  ⟨.bin .add, (ch 1002), (.int .i64 12), (ch 1003)⟩,
  ⟨.bin .rem, (ch 1003), (.int .i64 12), (.int .i64 10)⟩,
  ⟨.bin .rem, (ch 1001), (.int .i64 14), (ch 1004)⟩,
  ⟨.bin .add, (ch 1004), (.int .i64 14), (ch 1005)⟩,
  ⟨.bin .rem, (ch 1005), (.int .i64 14), (.int .i64 8)⟩]
theorem Zw.i148 : Zw.d0.sub 8 [] (idl 8 Zw.d0.objs) (idA 2) (Zw.d0.st 8 []) = true := by kernel_rfl
theorem Zw.r148 : leafFin (Tryz.Es Tryz.m3 (syOf Zw.t148)) Tryz.f4 (fK (Tryz.Es Tryz.m3 (syOf Zw.t148)) 100000 100000 Zw.pS (Zw.d0.st 8 []) 0) = true := by kernel_rfl
noncomputable def Zw.t154 : List SE := ncL [⟨.bin .rem, (ch 1000), (.int .i64 12), (ch 1002)⟩,
  ⟨.bin .add, (ch 1002), (.int .i64 12), (ch 1003)⟩,
  ⟨.bin .rem, (ch 1003), (.int .i64 12), (.int .i64 11)⟩,
  ⟨.bin .rem, (ch 1001), (.int .i64 14), (ch 1004)⟩,
  ⟨.bin .add, (ch 1004), (.int .i64 14), (ch 1005)⟩,
  ⟨.bin .rem, (ch 1005), (.int .i64 14), (.int .i64 0)⟩]
theorem Zw.i154 : Zw.d0.sub 8 [] (idl 8 Zw.d0.objs) (idA 2) (Zw.d0.st 8 []) = true := by kernel_rfl
theorem Zw.r154 : leafFin (Tryz.Es Tryz.m3 (syOf Zw.t154)) Tryz.f4 (fK (Tryz.Es Tryz.m3 (syOf Zw.t154)) 100000 100000 Zw.pS (Zw.d0.st 8 []) 0) = true := by kernel_rfl
noncomputable def Zw.t160 : List SE := ncL [⟨.bin .rem, (ch 1000), (.int .i64 12), (ch 1002)⟩,
  ⟨.bin .add, (ch 1002), (.int .i64 12), (ch 1003)⟩,
  ⟨.bin .rem, (ch 1003), (.int .i64 12), (.int .i64 11)⟩,
  ⟨.bin .rem, (ch 1001), (.int .i64 14), (ch 1004)⟩,
  ⟨.bin .add, (ch 1004), (.int .i64 14), (ch 1005)⟩,
  ⟨.bin .rem, (ch 1005), (.int .i64 14), (.int .i64 6)⟩]
theorem Zw.i160 : Zw.d0.sub 8 [] (idl 8 Zw.d0.objs) (idA 2) (Zw.d0.st 8 []) = true := by kernel_rfl
theorem Zw.r160 : leafFin (Tryz.Es Tryz.m3 (syOf Zw.t160)) Tryz.f4 (fK (Tryz.Es Tryz.m3 (syOf Zw.t160)) 100000 100000 Zw.pS (Zw.d0.st 8 []) 0) = true := by kernel_rfl
noncomputable def Zw.t166 : List SE := ncL [⟨.bin .rem, (ch 1000), (.int .i64 12), (ch 1002)⟩,
  ⟨.bin .add, (ch 1002), (.int .i64 12), (ch 1003)⟩,
  ⟨.bin .rem, (ch 1003), (.int .i64 12), (.int .i64 11)⟩,
  ⟨.bin .rem, (ch 1001), (.int .i64 14), (ch 1004)⟩,
  ⟨.bin .add, (ch 1004), (.int .i64 14), (ch 1005)⟩,
  ⟨.bin .rem, (ch 1005), (.int .i64 14), (.int .i64 12)⟩]
theorem Zw.i166 : Zw.d0.sub 8 [] (idl 8 Zw.d0.objs) (idA 2) (Zw.d0.st 8 []) = true := by kernel_rfl
theorem Zw.r166 : leafFin (Tryz.Es Tryz.m3 (syOf Zw.t166)) Tryz.f4 (fK (Tryz.Es Tryz.m3 (syOf Zw.t166)) 100000 100000 Zw.pS (Zw.d0.st 8 []) 0) = true := by kernel_rfl
end
end Go.Proofs
