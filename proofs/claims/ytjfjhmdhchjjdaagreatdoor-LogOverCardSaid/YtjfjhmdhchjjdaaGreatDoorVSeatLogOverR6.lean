/- Pieces of the law's run, from node to node, answered by the executor. No conditions. -/
import Derived.Test.YtjfjhmdhchjjdaaGreatDoorVSeatLogOverNd
set_option linter.all false
namespace Go.Proofs
open Go Go.Vsx
set_option maxRecDepth 1000000
noncomputable section
noncomputable def Zw.t5 : List SE := ncL [⟨.bin .rem, (ch 1000), (.int .i64 12), (ch 1002)⟩,
  ⟨.bin .add, (ch 1002), (.int .i64 12), (ch 1003)⟩,
  ⟨.bin .rem, (ch 1003), (.int .i64 12), (.int .i64 0)⟩,
  ⟨.bin .rem, (ch 1001), (.int .i64 14), (ch 1004)⟩,
  ⟨.bin .add, (ch 1004), (.int .i64 14), (ch 1005)⟩,
  ⟨.bin .rem, (ch 1005), (.int .i64 14), (.int .i64 5)⟩]
theorem Zw.i5 : Zw.d0.sub 8 [] (idl 8 Zw.d0.objs) (idA 2) (Zw.d0.st 8 []) = true := by kernel_rfl
theorem Zw.r5 : leafFin (Tryz.Es Tryz.m3 (syOf Zw.t5)) Tryz.f4 (fK (Tryz.Es Tryz.m3 (syOf Zw.t5)) 100000 100000 Zw.pS (Zw.d0.st 8 []) 0) = true := by kernel_rfl
noncomputable def Zw.t11 : List SE := ncL [⟨.bin .rem, (ch 1000), (.int .i64 12), (ch 1002)⟩,
  ⟨.bin .add, (ch 1002), (.int .i64 12), (ch 1003)⟩,
  ⟨.bin .rem, (ch 1003), (.int .i64 12), (.int .i64 0)⟩,
  ⟨.bin .rem, (ch 1001), (.int .i64 14), (ch 1004)⟩,
  ⟨.bin .add, (ch 1004), (.int .i64 14), (ch 1005)⟩,
  ⟨.bin .rem, (ch 1005), (.int .i64 14), (.int .i64 11)⟩]
theorem Zw.i11 : Zw.d0.sub 8 [] (idl 8 Zw.d0.objs) (idA 2) (Zw.d0.st 8 []) = true := by kernel_rfl
theorem Zw.r11 : leafFin (Tryz.Es Tryz.m3 (syOf Zw.t11)) Tryz.f4 (fK (Tryz.Es Tryz.m3 (syOf Zw.t11)) 100000 100000 Zw.pS (Zw.d0.st 8 []) 0) = true := by kernel_rfl
noncomputable def Zw.t17 : List SE := ncL [⟨.bin .rem, (ch 1000), (.int .i64 12), (ch 1002)⟩,
  ⟨.bin .add, (ch 1002), (.int .i64 12), (ch 1003)⟩,
  ⟨.bin .rem, (ch 1003), (.int .i64 12), (.int .i64 1)⟩,
  ⟨.bin .rem, (ch 1001), (.int .i64 14), (ch 1004)⟩,
  ⟨.bin .add, (ch 1004), (.int .i64 14), (ch 1005)⟩,
  ⟨.bin .rem, (ch 1005), (.int .i64 14), (.int .i64 3)⟩]
theorem Zw.i17 : Zw.d0.sub 8 [] (idl 8 Zw.d0.objs) (idA 2) (Zw.d0.st 8 []) = true := by kernel_rfl
theorem Zw.r17 : leafFin (Tryz.Es Tryz.m3 (syOf Zw.t17)) Tryz.f4 (fK (Tryz.Es Tryz.m3 (syOf Zw.t17)) 100000 100000 Zw.pS (Zw.d0.st 8 []) 0) = true := by kernel_rfl
noncomputable def Zw.t23 : List SE := ncL [⟨.bin .rem, (ch 1000), (.int .i64 12), (ch 1002)⟩,
  ⟨.bin .add, (ch 1002), (.int .i64 12), (ch 1003)⟩,
  ⟨.bin .rem, (ch 1003), (.int .i64 12), (.int .i64 1)⟩,
  ⟨.bin .rem, (ch 1001), (.int .i64 14), (ch 1004)⟩,
  ⟨.bin .add, (ch 1004), (.int .i64 14), (ch 1005)⟩,
  ⟨.bin .rem, (ch 1005), (.int .i64 14), (.int .i64 9)⟩]
theorem Zw.i23 : Zw.d0.sub 8 [] (idl 8 Zw.d0.objs) (idA 2) (Zw.d0.st 8 []) = true := by kernel_rfl
theorem Zw.r23 : leafFin (Tryz.Es Tryz.m3 (syOf Zw.t23)) Tryz.f4 (fK (Tryz.Es Tryz.m3 (syOf Zw.t23)) 100000 100000 Zw.pS (Zw.d0.st 8 []) 0) = true := by kernel_rfl
noncomputable def Zw.t29 : List SE := ncL [⟨.bin .rem, (ch 1000), (.int .i64 12), (ch 1002)⟩,
  ⟨.bin .add, (ch 1002), (.int .i64 12), (ch 1003)⟩,
  ⟨.bin .rem, (ch 1003), (.int .i64 12), (.int .i64 2)⟩,
  ⟨.bin .rem, (ch 1001), (.int .i64 14), (ch 1004)⟩,
  ⟨.bin .add, (ch 1004), (.int .i64 14), (ch 1005)⟩,
  ⟨.bin .rem, (ch 1005), (.int .i64 14), (.int .i64 1)⟩]
theorem Zw.i29 : Zw.d0.sub 8 [] (idl 8 Zw.d0.objs) (idA 2) (Zw.d0.st 8 []) = true := by kernel_rfl
theorem Zw.r29 : leafFin (Tryz.Es Tryz.m3 (syOf Zw.t29)) Tryz.f4 (fK (Tryz.Es Tryz.m3 (syOf Zw.t29)) 100000 100000 Zw.pS (Zw.d0.st 8 []) 0) = true := by kernel_rfl
noncomputable def Zw.t35 : List SE := ncL [⟨.bin .rem, (ch 1000), (.int .i64 12), (ch 1002)⟩,
  ⟨.bin .add, (ch 1002), (.int .i64 12), (ch 1003)⟩,
  ⟨.bin .rem, (ch 1003), (.int .i64 12), (.int .i64 2)⟩,
  ⟨.bin .rem, (ch 1001), (.int .i64 14), (ch 1004)⟩,
  ⟨.bin .add, (ch 1004), (.int .i64 14), (ch 1005)⟩,
  ⟨.bin .rem, (ch 1005), (.int .i64 14), (.int .i64 7)⟩]
theorem Zw.i35 : Zw.d0.sub 8 [] (idl 8 Zw.d0.objs) (idA 2) (Zw.d0.st 8 []) = true := by kernel_rfl
theorem Zw.r35 : leafFin (Tryz.Es Tryz.m3 (syOf Zw.t35)) Tryz.f4 (fK (Tryz.Es Tryz.m3 (syOf Zw.t35)) 100000 100000 Zw.pS (Zw.d0.st 8 []) 0) = true := by kernel_rfl
noncomputable def Zw.t41 : List SE := ncL [⟨.bin .rem, (ch 1000), (.int .i64 12), (ch 1002)⟩,
  ⟨.bin .add, (ch 1002), (.int .i64 12), (ch 1003)⟩,
  ⟨.bin .rem, (ch 1003), (.int .i64 12), (.int .i64 2)⟩,
  ⟨.bin .rem, (ch 1001), (.int .i64 14), (ch 1004)⟩,
  ⟨.bin .add, (ch 1004), (.int .i64 14), (ch 1005)⟩,
  ⟨.bin .rem, (ch 1005), (.int .i64 14), (.int .i64 13)⟩]
theorem Zw.i41 : Zw.d0.sub 8 [] (idl 8 Zw.d0.objs) (idA 2) (Zw.d0.st 8 []) = true := by kernel_rfl
theorem Zw.r41 : leafFin (Tryz.Es Tryz.m3 (syOf Zw.t41)) Tryz.f4 (fK (Tryz.Es Tryz.m3 (syOf Zw.t41)) 100000 100000 Zw.pS (Zw.d0.st 8 []) 0) = true := by kernel_rfl
noncomputable def Zw.t47 : List SE := ncL [⟨.bin .rem, (ch 1000), (.int .i64 12), (ch 1002)⟩,
  ⟨.bin .add, (ch 1002), (.int .i64 12), (ch 1003)⟩,
  ⟨.bin .rem, (ch 1003), (.int .i64 12), (.int .i64 3)⟩,
  ⟨.bin .rem, (ch 1001), (.int .i64 14), (ch 1004)⟩,
  ⟨.bin .add, (ch 1004), (.int .i64 14), (ch 1005)⟩,
  ⟨.bin .rem, (ch 1005), (.int .i64 14), (.int .i64 5)⟩]
theorem Zw.i47 : Zw.d0.sub 8 [] (idl 8 Zw.d0.objs) (idA 2) (Zw.d0.st 8 []) = true := by kernel_rfl
theorem Zw.r47 : leafFin (Tryz.Es Tryz.m3 (syOf Zw.t47)) Tryz.f4 (fK (Tryz.Es Tryz.m3 (syOf Zw.t47)) 100000 100000 Zw.pS (Zw.d0.st 8 []) 0) = true := by kernel_rfl
noncomputable def Zw.t53 : List SE := ncL [⟨.bin .rem, (ch 1000), (.int .i64 12), (ch 1002)⟩,
  ⟨.bin .add, (ch 1002), (.int .i64 12), (ch 1003)⟩,
  ⟨.bin .rem, (ch 1003), (.int .i64 12), (.int .i64 3)⟩,
  ⟨.bin .rem, (ch 1001), (.int .i64 14), (ch 1004)⟩,
  ⟨.bin .add, (ch 1004), (.int .i64 14), (ch 1005)⟩,
  ⟨.bin .rem, (ch 1005), (.int .i64 14), (.int .i64 11)⟩]
theorem Zw.i53 : Zw.d0.sub 8 [] (idl 8 Zw.d0.objs) (idA 2) (Zw.d0.st 8 []) = true := by kernel_rfl
theorem Zw.r53 : leafFin (Tryz.Es Tryz.m3 (syOf Zw.t53)) Tryz.f4 (fK (Tryz.Es Tryz.m3 (syOf Zw.t53)) 100000 100000 Zw.pS (Zw.d0.st 8 []) 0) = true := by kernel_rfl
noncomputable def Zw.t59 : List SE := ncL [⟨.bin .rem, (ch 1000), (.int .i64 12), (ch 1002)⟩,
  ⟨.bin .add, (ch 1002), (.int .i64 12), (ch 1003)⟩,
  ⟨.bin .rem, (ch 1003), (.int .i64 12), (.int .i64 4)⟩,
  ⟨.bin .rem, (ch 1001), (.int .i64 14), (ch 1004)⟩,
  ⟨.bin .add, (ch 1004), (.int .i64 14), (ch 1005)⟩,
  ⟨.bin .rem, (ch 1005), (.int .i64 14), (.int .i64 3)⟩]
theorem Zw.i59 : Zw.d0.sub 8 [] (idl 8 Zw.d0.objs) (idA 2) (Zw.d0.st 8 []) = true := by kernel_rfl
theorem Zw.r59 : leafFin (Tryz.Es Tryz.m3 (syOf Zw.t59)) Tryz.f4 (fK (Tryz.Es Tryz.m3 (syOf Zw.t59)) 100000 100000 Zw.pS (Zw.d0.st 8 []) 0) = true := by kernel_rfl
noncomputable def Zw.t65 : List SE := ncL [⟨.bin .rem, (ch 1000), (.int .i64 12), (ch 1002)⟩,
  ⟨.bin .add, (ch 1002), (.int .i64 12), (ch 1003)⟩,
  ⟨.bin .rem, (ch 1003), (.int .i64 12), (.int .i64 4)⟩,
  ⟨.bin .rem, (ch 1001), (.int .i64 14), (ch 1004)⟩,
  ⟨.bin .add, (ch 1004), (.int .i64 14), (ch 1005)⟩,
  ⟨.bin .rem, (ch 1005), (.int .i64 14), (.int .i64 9)⟩]
theorem Zw.i65 : Zw.d0.sub 8 [] (idl 8 Zw.d0.objs) (idA 2) (Zw.d0.st 8 []) = true := by kernel_rfl
theorem Zw.r65 : leafFin (Tryz.Es Tryz.m3 (syOf Zw.t65)) Tryz.f4 (fK (Tryz.Es Tryz.m3 (syOf Zw.t65)) 100000 100000 Zw.pS (Zw.d0.st 8 []) 0) = true := by kernel_rfl
noncomputable def Zw.t71 : List SE := ncL [⟨.bin .rem, (ch 1000), (.int .i64 12), (ch 1002)⟩,
  ⟨.bin .add, (ch 1002), (.int .i64 12), (ch 1003)⟩,
  ⟨.bin .rem, (ch 1003), (.int .i64 12), (.int .i64 5)⟩,
  ⟨.bin .rem, (ch 1001), (.int .i64 14), (ch 1004)⟩,
  ⟨.bin .add, (ch 1004), (.int .i64 14), (ch 1005)⟩,
  ⟨.bin .rem, (ch 1005), (.int .i64 14), (.int .i64 1)⟩]
theorem Zw.i71 : Zw.d0.sub 8 [] (idl 8 Zw.d0.objs) (idA 2) (Zw.d0.st 8 []) = true := by kernel_rfl
theorem Zw.r71 : leafFin (Tryz.Es Tryz.m3 (syOf Zw.t71)) Tryz.f4 (fK (Tryz.Es Tryz.m3 (syOf Zw.t71)) 100000 100000 Zw.pS (Zw.d0.st 8 []) 0) = true := by kernel_rfl
noncomputable def Zw.t77 : List SE := ncL [⟨.bin .rem, (ch 1000), (.int .i64 12), (ch 1002)⟩,
  ⟨.bin .add, (ch 1002), (.int .i64 12), (ch 1003)⟩,
  ⟨.bin .rem, (ch 1003), (.int .i64 12), (.int .i64 5)⟩,
  ⟨.bin .rem, (ch 1001), (.int .i64 14), (ch 1004)⟩,
  ⟨.bin .add, (ch 1004), (.int .i64 14), (ch 1005)⟩,
  ⟨.bin .rem, (ch 1005), (.int .i64 14), (.int .i64 7)⟩]
theorem Zw.i77 : Zw.d0.sub 8 [] (idl 8 Zw.d0.objs) (idA 2) (Zw.d0.st 8 []) = true := by kernel_rfl
theorem Zw.r77 : leafFin (Tryz.Es Tryz.m3 (syOf Zw.t77)) Tryz.f4 (fK (Tryz.Es Tryz.m3 (syOf Zw.t77)) 100000 100000 Zw.pS (Zw.d0.st 8 []) 0) = true := by kernel_rfl
noncomputable def Zw.t83 : List SE := ncL [⟨.bin .rem, (ch 1000), (.int .i64 12), (ch 1002)⟩,
  ⟨.bin .add, (ch 1002), (.int .i64 12), (ch 1003)⟩,
  ⟨.bin .rem, (ch 1003), (.int .i64 12), (.int .i64 5)⟩,
  ⟨.bin .rem, (ch 1001), (.int .i64 14), (ch 1004)⟩,
  ⟨.bin .add, (ch 1004), (.int .i64 14), (ch 1005)⟩,
  ⟨.bin .rem, (ch 1005), (.int .i64 14), (.int .i64 13)⟩]
theorem Zw.i83 : Zw.d0.sub 8 [] (idl 8 Zw.d0.objs) (idA 2) (Zw.d0.st 8 []) = true := by kernel_rfl
theorem Zw.r83 : leafFin (Tryz.Es Tryz.m3 (syOf Zw.t83)) Tryz.f4 (fK (Tryz.Es Tryz.m3 (syOf Zw.t83)) 100000 100000 Zw.pS (Zw.d0.st 8 []) 0) = true := by kernel_rfl
noncomputable def Zw.t89 : List SE := ncL [⟨.bin .rem, (ch 1000), (.int .i64 12), (ch 1002)⟩,
  ⟨.bin .add, (ch 1002), (.int .i64 12), (ch 1003)⟩,
  ⟨.bin .rem, (ch 1003), (.int .i64 12), (.int .i64 6)⟩,
  ⟨.bin .rem, (ch 1001), (.int .i64 14), (ch 1004)⟩,
  ⟨.bin .add, (ch 1004), (.int .i64 14), (ch 1005)⟩,
  ⟨.bin .rem, (ch 1005), (.int .i64 14), (.int .i64 5)⟩]
theorem Zw.i89 : Zw.d0.sub 8 [] (idl 8 Zw.d0.objs) (idA 2) (Zw.d0.st 8 []) = true := by kernel_rfl
theorem Zw.r89 : leafFin (Tryz.Es Tryz.m3 (syOf Zw.t89)) Tryz.f4 (fK (Tryz.Es Tryz.m3 (syOf Zw.t89)) 100000 100000 Zw.pS (Zw.d0.st 8 []) 0) = true := by kernel_rfl
noncomputable def Zw.t95 : List SE := ncL [⟨.bin .rem, (ch 1000), (.int .i64 12), (ch 1002)⟩,
  ⟨.bin .add, (ch 1002), (.int .i64 12), (ch 1003)⟩,
  ⟨.bin .rem, (ch 1003), (.int .i64 12), (.int .i64 6)⟩,
  ⟨.bin .rem, (ch 1001), (.int .i64 14), (ch 1004)⟩,
  ⟨.bin .add, (ch 1004), (.int .i64 14), (ch 1005)⟩,
  ⟨.bin .rem, (ch 1005), (.int .i64 14), (.int .i64 11)⟩]
theorem Zw.i95 : Zw.d0.sub 8 [] (idl 8 Zw.d0.objs) (idA 2) (Zw.d0.st 8 []) = true := by kernel_rfl
theorem Zw.r95 : leafFin (Tryz.Es Tryz.m3 (syOf Zw.t95)) Tryz.f4 (fK (Tryz.Es Tryz.m3 (syOf Zw.t95)) 100000 100000 Zw.pS (Zw.d0.st 8 []) 0) = true := by kernel_rfl
noncomputable def Zw.t101 : List SE := ncL [⟨.bin .rem, (ch 1000), (.int .i64 12), (ch 1002)⟩,
  ⟨.bin .add, (ch 1002), (.int .i64 12), (ch 1003)⟩,
  ⟨.bin .rem, (ch 1003), (.int .i64 12), (.int .i64 7)⟩,
  ⟨.bin .rem, (ch 1001), (.int .i64 14), (ch 1004)⟩,
  ⟨.bin .add, (ch 1004), (.int .i64 14), (ch 1005)⟩,
  ⟨.bin .rem, (ch 1005), (.int .i64 14), (.int .i64 3)⟩]
theorem Zw.i101 : Zw.d0.sub 8 [] (idl 8 Zw.d0.objs) (idA 2) (Zw.d0.st 8 []) = true := by kernel_rfl
theorem Zw.r101 : leafFin (Tryz.Es Tryz.m3 (syOf Zw.t101)) Tryz.f4 (fK (Tryz.Es Tryz.m3 (syOf Zw.t101)) 100000 100000 Zw.pS (Zw.d0.st 8 []) 0) = true := by kernel_rfl
noncomputable def Zw.t107 : List SE := ncL [⟨.bin .rem, (ch 1000), (.int .i64 12), (ch 1002)⟩,
  ⟨.bin .add, (ch 1002), (.int .i64 12), (ch 1003)⟩,
  ⟨.bin .rem, (ch 1003), (.int .i64 12), (.int .i64 7)⟩,
  ⟨.bin .rem, (ch 1001), (.int .i64 14), (ch 1004)⟩,
  ⟨.bin .add, (ch 1004), (.int .i64 14), (ch 1005)⟩,
  ⟨.bin .rem, (ch 1005), (.int .i64 14), (.int .i64 9)⟩]
theorem Zw.i107 : Zw.d0.sub 8 [] (idl 8 Zw.d0.objs) (idA 2) (Zw.d0.st 8 []) = true := by kernel_rfl
theorem Zw.r107 : leafFin (Tryz.Es Tryz.m3 (syOf Zw.t107)) Tryz.f4 (fK (Tryz.Es Tryz.m3 (syOf Zw.t107)) 100000 100000 Zw.pS (Zw.d0.st 8 []) 0) = true := by kernel_rfl
noncomputable def Zw.t113 : List SE := ncL [⟨.bin .rem, (ch 1000), (.int .i64 12), (ch 1002)⟩,
  ⟨.bin .add, (ch 1002), (.int .i64 12), (ch 1003)⟩,
  ⟨.bin .rem, (ch 1003), (.int .i64 12), (.int .i64 8)⟩,
  ⟨.bin .rem, (ch 1001), (.int .i64 14), (ch 1004)⟩,
  ⟨.bin .add, (ch 1004), (.int .i64 14), (ch 1005)⟩,
  ⟨.bin .rem, (ch 1005), (.int .i64 14), (.int .i64 1)⟩]
theorem Zw.i113 : Zw.d0.sub 8 [] (idl 8 Zw.d0.objs) (idA 2) (Zw.d0.st 8 []) = true := by kernel_rfl
theorem Zw.r113 : leafFin (Tryz.Es Tryz.m3 (syOf Zw.t113)) Tryz.f4 (fK (Tryz.Es Tryz.m3 (syOf Zw.t113)) 100000 100000 Zw.pS (Zw.d0.st 8 []) 0) = true := by kernel_rfl
noncomputable def Zw.t119 : List SE := ncL [⟨.bin .rem, (ch 1000), (.int .i64 12), (ch 1002)⟩,
  ⟨.bin .add, (ch 1002), (.int .i64 12), (ch 1003)⟩,
  ⟨.bin .rem, (ch 1003), (.int .i64 12), (.int .i64 8)⟩,
  ⟨.bin .rem, (ch 1001), (.int .i64 14), (ch 1004)⟩,
  ⟨.bin .add, (ch 1004), (.int .i64 14), (ch 1005)⟩,
  ⟨.bin .rem, (ch 1005), (.int .i64 14), (.int .i64 7)⟩]
theorem Zw.i119 : Zw.d0.sub 8 [] (idl 8 Zw.d0.objs) (idA 2) (Zw.d0.st 8 []) = true := by kernel_rfl
theorem Zw.r119 : leafFin (Tryz.Es Tryz.m3 (syOf Zw.t119)) Tryz.f4 (fK (Tryz.Es Tryz.m3 (syOf Zw.t119)) 100000 100000 Zw.pS (Zw.d0.st 8 []) 0) = true := by kernel_rfl
noncomputable def Zw.t125 : List SE := ncL [⟨.bin .rem, (ch 1000), (.int .i64 12), (ch 1002)⟩,
  ⟨.bin .add, (ch 1002), (.int .i64 12), (ch 1003)⟩,
  ⟨.bin .rem, (ch 1003), (.int .i64 12), (.int .i64 8)⟩,
  ⟨.bin .rem, (ch 1001), (.int .i64 14), (ch 1004)⟩,
  ⟨.bin .add, (ch 1004), (.int .i64 14), (ch 1005)⟩,
  ⟨.bin .rem, (ch 1005), (.int .i64 14), (.int .i64 13)⟩]
theorem Zw.i125 : Zw.d0.sub 8 [] (idl 8 Zw.d0.objs) (idA 2) (Zw.d0.st 8 []) = true := by kernel_rfl
theorem Zw.r125 : leafFin (Tryz.Es Tryz.m3 (syOf Zw.t125)) Tryz.f4 (fK (Tryz.Es Tryz.m3 (syOf Zw.t125)) 100000 100000 Zw.pS (Zw.d0.st 8 []) 0) = true := by kernel_rfl
noncomputable def Zw.t131 : List SE := ncL [⟨.bin .rem, (ch 1000), (.int .i64 12), (ch 1002)⟩,
  ⟨.bin .add, (ch 1002), (.int .i64 12), (ch 1003)⟩,
  ⟨.bin .rem, (ch 1003), (.int .i64 12), (.int .i64 9)⟩,
  ⟨.bin .rem, (ch 1001), (.int .i64 14), (ch 1004)⟩,
  ⟨.bin .add, (ch 1004), (.int .i64 14), (ch 1005)⟩,
  ⟨.bin .rem, (ch 1005), (.int .i64 14), (.int .i64 5)⟩]
theorem Zw.i131 : Zw.d0.sub 8 [] (idl 8 Zw.d0.objs) (idA 2) (Zw.d0.st 8 []) = true := by kernel_rfl
theorem Zw.r131 : leafFin (Tryz.Es Tryz.m3 (syOf Zw.t131)) Tryz.f4 (fK (Tryz.Es Tryz.m3 (syOf Zw.t131)) 100000 100000 Zw.pS (Zw.d0.st 8 []) 0) = true := by kernel_rfl
noncomputable def Zw.t137 : List SE := ncL [⟨.bin .rem, (ch 1000), (.int .i64 12), (ch 1002)⟩,
  ⟨.bin .add, (ch 1002), (.int .i64 12), (ch 1003)⟩,
  ⟨.bin .rem, (ch 1003), (.int .i64 12), (.int .i64 9)⟩,
  ⟨.bin .rem, (ch 1001), (.int .i64 14), (ch 1004)⟩,
  ⟨.bin .add, (ch 1004), (.int .i64 14), (ch 1005)⟩,
  ⟨.bin .rem, (ch 1005), (.int .i64 14), (.int .i64 11)⟩]
theorem Zw.i137 : Zw.d0.sub 8 [] (idl 8 Zw.d0.objs) (idA 2) (Zw.d0.st 8 []) = true := by kernel_rfl
theorem Zw.r137 : leafFin (Tryz.Es Tryz.m3 (syOf Zw.t137)) Tryz.f4 (fK (Tryz.Es Tryz.m3 (syOf Zw.t137)) 100000 100000 Zw.pS (Zw.d0.st 8 []) 0) = true := by kernel_rfl
noncomputable def Zw.t143 : List SE := ncL [⟨.bin .rem, (ch 1000), (.int .i64 12), (ch 1002)⟩,
  ⟨.bin .add, (ch 1002), (.int .i64 12), (ch 1003)⟩,
  ⟨.bin .rem, (ch 1003), (.int .i64 12), (.int .i64 10)⟩,
  ⟨.bin .rem, (ch 1001), (.int .i64 14), (ch 1004)⟩,
  ⟨.bin .add, (ch 1004), (.int .i64 14), (ch 1005)⟩,
  ⟨.bin .rem, (ch 1005), (.int .i64 14), (.int .i64 3)⟩]
theorem Zw.i143 : Zw.d0.sub 8 [] (idl 8 Zw.d0.objs) (idA 2) (Zw.d0.st 8 []) = true := by kernel_rfl
theorem Zw.r143 : leafFin (Tryz.Es Tryz.m3 (syOf Zw.t143)) Tryz.f4 (fK (Tryz.Es Tryz.m3 (syOf Zw.t143)) 100000 100000 Zw.pS (Zw.d0.st 8 []) 0) = true := by kernel_rfl
noncomputable def Zw.t149 : List SE := ncL [⟨.bin .rem, (ch 1000), (.int .i64 12), (ch 1002)⟩,
  ⟨.bin .add, (ch 1002), (.int .i64 12), (ch 1003)⟩,
  ⟨.bin .rem, (ch 1003), (.int .i64 12), (.int .i64 10)⟩,
  ⟨.bin .rem, (ch 1001), (.int .i64 14), (ch 1004)⟩,
  ⟨.bin .add, (ch 1004), (.int .i64 14), (ch 1005)⟩,
  ⟨.bin .rem, (ch 1005), (.int .i64 14), (.int .i64 9)⟩]
theorem Zw.i149 : Zw.d0.sub 8 [] (idl 8 Zw.d0.objs) (idA 2) (Zw.d0.st 8 []) = true := by kernel_rfl
theorem Zw.r149 : leafFin (Tryz.Es Tryz.m3 (syOf Zw.t149)) Tryz.f4 (fK (Tryz.Es Tryz.m3 (syOf Zw.t149)) 100000 100000 Zw.pS (Zw.d0.st 8 []) 0) = true := by kernel_rfl
noncomputable def Zw.t155 : List SE := ncL [⟨.bin .rem, (ch 1000), (.int .i64 12), (ch 1002)⟩,
  ⟨.bin .add, (ch 1002), (.int .i64 12), (ch 1003)⟩,
  ⟨.bin .rem, (ch 1003), (.int .i64 12), (.int .i64 11)⟩,
  ⟨.bin .rem, (ch 1001), (.int .i64 14), (ch 1004)⟩,
  ⟨.bin .add, (ch 1004), (.int .i64 14), (ch 1005)⟩,
  ⟨.bin .rem, (ch 1005), (.int .i64 14), (.int .i64 1)⟩]
theorem Zw.i155 : Zw.d0.sub 8 [] (idl 8 Zw.d0.objs) (idA 2) (Zw.d0.st 8 []) = true := by kernel_rfl
theorem Zw.r155 : leafFin (Tryz.Es Tryz.m3 (syOf Zw.t155)) Tryz.f4 (fK (Tryz.Es Tryz.m3 (syOf Zw.t155)) 100000 100000 Zw.pS (Zw.d0.st 8 []) 0) = true := by kernel_rfl
noncomputable def Zw.t161 : List SE := ncL [⟨.bin .rem, (ch 1000), (.int .i64 12), (ch 1002)⟩,
  ⟨.bin .add, (ch 1002), (.int .i64 12), (ch 1003)⟩,
  ⟨.bin .rem, (ch 1003), (.int .i64 12), (.int .i64 11)⟩,
  ⟨.bin .rem, (ch 1001), (.int .i64 14), (ch 1004)⟩,
  ⟨.bin .add, (ch 1004), (.int .i64 14), (ch 1005)⟩,
  ⟨.bin .rem, (ch 1005), (.int .i64 14), (.int .i64 7)⟩]
theorem Zw.i161 : Zw.d0.sub 8 [] (idl 8 Zw.d0.objs) (idA 2) (Zw.d0.st 8 []) = true := by kernel_rfl
theorem Zw.r161 : leafFin (Tryz.Es Tryz.m3 (syOf Zw.t161)) Tryz.f4 (fK (Tryz.Es Tryz.m3 (syOf Zw.t161)) 100000 100000 Zw.pS (Zw.d0.st 8 []) 0) = true := by kernel_rfl
noncomputable def Zw.t167 : List SE := ncL [⟨.bin .rem, (ch 1000), (.int .i64 12), (ch 1002)⟩,
  ⟨.bin .add, (ch 1002), (.int .i64 12), (ch 1003)⟩,
  ⟨.bin .rem, (ch 1003), (.int .i64 12), (.int .i64 11)⟩,
  ⟨.bin .rem, (ch 1001), (.int .i64 14), (ch 1004)⟩,
  ⟨.bin .add, (ch 1004), (.int .i64 14), (ch 1005)⟩,
  ⟨.bin .rem, (ch 1005), (.int .i64 14), (.int .i64 13)⟩]
theorem Zw.i167 : Zw.d0.sub 8 [] (idl 8 Zw.d0.objs) (idA 2) (Zw.d0.st 8 []) = true := by kernel_rfl
theorem Zw.r167 : leafFin (Tryz.Es Tryz.m3 (syOf Zw.t167)) Tryz.f4 (fK (Tryz.Es Tryz.m3 (syOf Zw.t167)) 100000 100000 Zw.pS (Zw.d0.st 8 []) 0) = true := by kernel_rfl
end
end Go.Proofs
