/- Pieces of the law's run, from node to node, answered by the executor. No conditions. -/
import Derived.Test.YtjfjhmdhchjjdaaGreatDoorVSeatLogOverNd
set_option linter.all false
namespace Go.Proofs
open Go Go.Vsx
set_option maxRecDepth 1000000
noncomputable section
noncomputable def Zw.t3 : List SE := ncL [⟨.bin .rem, (ch 1000), (.int .i64 12), (ch 1002)⟩,
  ⟨.bin .add, (ch 1002), (.int .i64 12), (ch 1003)⟩,
  ⟨.bin .rem, (ch 1003), (.int .i64 12), (.int .i64 0)⟩,
  ⟨.bin .rem, (ch 1001), (.int .i64 14), (ch 1004)⟩,
  ⟨.bin .add, (ch 1004), (.int .i64 14), (ch 1005)⟩,
  ⟨.bin .rem, (ch 1005), (.int .i64 14), (.int .i64 3)⟩]
theorem Zw.i3 : Zw.d0.sub 8 [] (idl 8 Zw.d0.objs) (idA 2) (Zw.d0.st 8 []) = true := by kernel_rfl
theorem Zw.r3 : leafFin (Tryz.Es Tryz.m3 (syOf Zw.t3)) Tryz.f4 (fK (Tryz.Es Tryz.m3 (syOf Zw.t3)) 100000 100000 Zw.pS (Zw.d0.st 8 []) 0) = true := by kernel_rfl
noncomputable def Zw.t9 : List SE := ncL [⟨.bin .rem, (ch 1000), (.int .i64 12), (ch 1002)⟩,
  ⟨.bin .add, (ch 1002), (.int .i64 12), (ch 1003)⟩,
  ⟨.bin .rem, (ch 1003), (.int .i64 12), (.int .i64 0)⟩,
  ⟨.bin .rem, (ch 1001), (.int .i64 14), (ch 1004)⟩,
  ⟨.bin .add, (ch 1004), (.int .i64 14), (ch 1005)⟩,
  ⟨.bin .rem, (ch 1005), (.int .i64 14), (.int .i64 9)⟩]
theorem Zw.i9 : Zw.d0.sub 8 [] (idl 8 Zw.d0.objs) (idA 2) (Zw.d0.st 8 []) = true := by kernel_rfl
theorem Zw.r9 : leafFin (Tryz.Es Tryz.m3 (syOf Zw.t9)) Tryz.f4 (fK (Tryz.Es Tryz.m3 (syOf Zw.t9)) 100000 100000 Zw.pS (Zw.d0.st 8 []) 0) = true := by kernel_rfl
noncomputable def Zw.t15 : List SE := ncL [⟨.bin .rem, (ch 1000), (.int .i64 12), (ch 1002)⟩,
  ⟨.bin .add, (ch 1002), (.int .i64 12), (ch 1003)⟩,
  ⟨.bin .rem, (ch 1003), (.int .i64 12), (.int .i64 1)⟩,
  ⟨.bin .rem, (ch 1001), (.int .i64 14), (ch 1004)⟩,
  ⟨.bin .add, (ch 1004), (.int .i64 14), (ch 1005)⟩,
  ⟨.bin .rem, (ch 1005), (.int .i64 14), (.int .i64 1)⟩]
theorem Zw.i15 : Zw.d0.sub 8 [] (idl 8 Zw.d0.objs) (idA 2) (Zw.d0.st 8 []) = true := by kernel_rfl
theorem Zw.r15 : leafFin (Tryz.Es Tryz.m3 (syOf Zw.t15)) Tryz.f4 (fK (Tryz.Es Tryz.m3 (syOf Zw.t15)) 100000 100000 Zw.pS (Zw.d0.st 8 []) 0) = true := by kernel_rfl
noncomputable def Zw.t21 : List SE := ncL [⟨.bin .rem, (ch 1000), (.int .i64 12), (ch 1002)⟩,
  ⟨.bin .add, (ch 1002), (.int .i64 12), (ch 1003)⟩,
  ⟨.bin .rem, (ch 1003), (.int .i64 12), (.int .i64 1)⟩,
  ⟨.bin .rem, (ch 1001), (.int .i64 14), (ch 1004)⟩,
  ⟨.bin .add, (ch 1004), (.int .i64 14), (ch 1005)⟩,
  ⟨.bin .rem, (ch 1005), (.int .i64 14), (.int .i64 7)⟩]
theorem Zw.i21 : Zw.d0.sub 8 [] (idl 8 Zw.d0.objs) (idA 2) (Zw.d0.st 8 []) = true := by kernel_rfl
theorem Zw.r21 : leafFin (Tryz.Es Tryz.m3 (syOf Zw.t21)) Tryz.f4 (fK (Tryz.Es Tryz.m3 (syOf Zw.t21)) 100000 100000 Zw.pS (Zw.d0.st 8 []) 0) = true := by kernel_rfl
noncomputable def Zw.t27 : List SE := ncL [⟨.bin .rem, (ch 1000), (.int .i64 12), (ch 1002)⟩,
  ⟨.bin .add, (ch 1002), (.int .i64 12), (ch 1003)⟩,
  ⟨.bin .rem, (ch 1003), (.int .i64 12), (.int .i64 1)⟩,
  ⟨.bin .rem, (ch 1001), (.int .i64 14), (ch 1004)⟩,
  ⟨.bin .add, (ch 1004), (.int .i64 14), (ch 1005)⟩,
  ⟨.bin .rem, (ch 1005), (.int .i64 14), (.int .i64 13)⟩]
theorem Zw.i27 : Zw.d0.sub 8 [] (idl 8 Zw.d0.objs) (idA 2) (Zw.d0.st 8 []) = true := by kernel_rfl
theorem Zw.r27 : leafFin (Tryz.Es Tryz.m3 (syOf Zw.t27)) Tryz.f4 (fK (Tryz.Es Tryz.m3 (syOf Zw.t27)) 100000 100000 Zw.pS (Zw.d0.st 8 []) 0) = true := by kernel_rfl
noncomputable def Zw.t33 : List SE := ncL [⟨.bin .rem, (ch 1000), (.int .i64 12), (ch 1002)⟩,
  ⟨.bin .add, (ch 1002), (.int .i64 12), (ch 1003)⟩,
  ⟨.bin .rem, (ch 1003), (.int .i64 12), (.int .i64 2)⟩,
  ⟨.bin .rem, (ch 1001), (.int .i64 14), (ch 1004)⟩,
  ⟨.bin .add, (ch 1004), (.int .i64 14), (ch 1005)⟩,
  ⟨.bin .rem, (ch 1005), (.int .i64 14), (.int .i64 5)⟩]
theorem Zw.i33 : Zw.d0.sub 8 [] (idl 8 Zw.d0.objs) (idA 2) (Zw.d0.st 8 []) = true := by kernel_rfl
theorem Zw.r33 : leafFin (Tryz.Es Tryz.m3 (syOf Zw.t33)) Tryz.f4 (fK (Tryz.Es Tryz.m3 (syOf Zw.t33)) 100000 100000 Zw.pS (Zw.d0.st 8 []) 0) = true := by kernel_rfl
noncomputable def Zw.t39 : List SE := ncL [⟨.bin .rem, (ch 1000), (.int .i64 12), (ch 1002)⟩,
  ⟨.bin .add, (ch 1002), (.int .i64 12), (ch 1003)⟩,
  ⟨.bin .rem, (ch 1003), (.int .i64 12), (.int .i64 2)⟩,
  ⟨.bin .rem, (ch 1001), (.int .i64 14), (ch 1004)⟩,
  ⟨.bin .add, (ch 1004), (.int .i64 14), (ch 1005)⟩,
  ⟨.bin .rem, (ch 1005), (.int .i64 14), (.int .i64 11)⟩]
theorem Zw.i39 : Zw.d0.sub 8 [] (idl 8 Zw.d0.objs) (idA 2) (Zw.d0.st 8 []) = true := by kernel_rfl
theorem Zw.r39 : leafFin (Tryz.Es Tryz.m3 (syOf Zw.t39)) Tryz.f4 (fK (Tryz.Es Tryz.m3 (syOf Zw.t39)) 100000 100000 Zw.pS (Zw.d0.st 8 []) 0) = true := by kernel_rfl
noncomputable def Zw.t45 : List SE := ncL [⟨.bin .rem, (ch 1000), (.int .i64 12), (ch 1002)⟩,
  ⟨.bin .add, (ch 1002), (.int .i64 12), (ch 1003)⟩,
  ⟨.bin .rem, (ch 1003), (.int .i64 12), (.int .i64 3)⟩,
  ⟨.bin .rem, (ch 1001), (.int .i64 14), (ch 1004)⟩,
  ⟨.bin .add, (ch 1004), (.int .i64 14), (ch 1005)⟩,
  ⟨.bin .rem, (ch 1005), (.int .i64 14), (.int .i64 3)⟩]
theorem Zw.i45 : Zw.d0.sub 8 [] (idl 8 Zw.d0.objs) (idA 2) (Zw.d0.st 8 []) = true := by kernel_rfl
theorem Zw.r45 : leafFin (Tryz.Es Tryz.m3 (syOf Zw.t45)) Tryz.f4 (fK (Tryz.Es Tryz.m3 (syOf Zw.t45)) 100000 100000 Zw.pS (Zw.d0.st 8 []) 0) = true := by kernel_rfl
noncomputable def Zw.t51 : List SE := ncL [⟨.bin .rem, (ch 1000), (.int .i64 12), (ch 1002)⟩,
  ⟨.bin .add, (ch 1002), (.int .i64 12), (ch 1003)⟩,
  ⟨.bin .rem, (ch 1003), (.int .i64 12), (.int .i64 3)⟩,
  ⟨.bin .rem, (ch 1001), (.int .i64 14), (ch 1004)⟩,
  ⟨.bin .add, (ch 1004), (.int .i64 14), (ch 1005)⟩,
  ⟨.bin .rem, (ch 1005), (.int .i64 14), (.int .i64 9)⟩]
theorem Zw.i51 : Zw.d0.sub 8 [] (idl 8 Zw.d0.objs) (idA 2) (Zw.d0.st 8 []) = true := by kernel_rfl
theorem Zw.r51 : leafFin (Tryz.Es Tryz.m3 (syOf Zw.t51)) Tryz.f4 (fK (Tryz.Es Tryz.m3 (syOf Zw.t51)) 100000 100000 Zw.pS (Zw.d0.st 8 []) 0) = true := by kernel_rfl
noncomputable def Zw.t57 : List SE := ncL [⟨.bin .rem, (ch 1000), (.int .i64 12), (ch 1002)⟩,
  ⟨.bin .add, (ch 1002), (.int .i64 12), (ch 1003)⟩,
  ⟨.bin .rem, (ch 1003), (.int .i64 12), (.int .i64 4)⟩,
  ⟨.bin .rem, (ch 1001), (.int .i64 14), (ch 1004)⟩,
  ⟨.bin .add, (ch 1004), (.int .i64 14), (ch 1005)⟩,
  ⟨.bin .rem, (ch 1005), (.int .i64 14), (.int .i64 1)⟩]
theorem Zw.i57 : Zw.d0.sub 8 [] (idl 8 Zw.d0.objs) (idA 2) (Zw.d0.st 8 []) = true := by kernel_rfl
theorem Zw.r57 : leafFin (Tryz.Es Tryz.m3 (syOf Zw.t57)) Tryz.f4 (fK (Tryz.Es Tryz.m3 (syOf Zw.t57)) 100000 100000 Zw.pS (Zw.d0.st 8 []) 0) = true := by kernel_rfl
noncomputable def Zw.t63 : List SE := ncL [⟨.bin .rem, (ch 1000), (.int .i64 12), (ch 1002)⟩,
  ⟨.bin .add, (ch 1002), (.int .i64 12), (ch 1003)⟩,
  ⟨.bin .rem, (ch 1003), (.int .i64 12), (.int .i64 4)⟩,
  ⟨.bin .rem, (ch 1001), (.int .i64 14), (ch 1004)⟩,
  ⟨.bin .add, (ch 1004), (.int .i64 14), (ch 1005)⟩,
  ⟨.bin .rem, (ch 1005), (.int .i64 14), (.int .i64 7)⟩]
theorem Zw.i63 : Zw.d0.sub 8 [] (idl 8 Zw.d0.objs) (idA 2) (Zw.d0.st 8 []) = true := by kernel_rfl
theorem Zw.r63 : leafFin (Tryz.Es Tryz.m3 (syOf Zw.t63)) Tryz.f4 (fK (Tryz.Es Tryz.m3 (syOf Zw.t63)) 100000 100000 Zw.pS (Zw.d0.st 8 []) 0) = true := by kernel_rfl
noncomputable def Zw.t69 : List SE := ncL [⟨.bin .rem, (ch 1000), (.int .i64 12), (ch 1002)⟩,
  ⟨.bin .add, (ch 1002), (.int .i64 12), (ch 1003)⟩,
  ⟨.bin .rem, (ch 1003), (.int .i64 12), (.int .i64 4)⟩,
  ⟨.bin .rem, (ch 1001), (.int .i64 14), (ch 1004)⟩,
  ⟨.bin .add, (ch 1004), (.int .i64 14), (ch 1005)⟩,
  ⟨.bin .rem, (ch 1005), (.int .i64 14), (.int .i64 13)⟩]
theorem Zw.i69 : Zw.d0.sub 8 [] (idl 8 Zw.d0.objs) (idA 2) (Zw.d0.st 8 []) = true := by kernel_rfl
theorem Zw.r69 : leafFin (Tryz.Es Tryz.m3 (syOf Zw.t69)) Tryz.f4 (fK (Tryz.Es Tryz.m3 (syOf Zw.t69)) 100000 100000 Zw.pS (Zw.d0.st 8 []) 0) = true := by kernel_rfl
noncomputable def Zw.t75 : List SE := ncL [⟨.bin .rem, (ch 1000), (.int .i64 12), (ch 1002)⟩,
  ⟨.bin .add, (ch 1002), (.int .i64 12), (ch 1003)⟩,
  ⟨.bin .rem, (ch 1003), (.int .i64 12), (.int .i64 5)⟩,
  ⟨.bin .rem, (ch 1001), (.int .i64 14), (ch 1004)⟩,
  ⟨.bin .add, (ch 1004), (.int .i64 14), (ch 1005)⟩,
  ⟨.bin .rem, (ch 1005), (.int .i64 14), (.int .i64 5)⟩]
theorem Zw.i75 : Zw.d0.sub 8 [] (idl 8 Zw.d0.objs) (idA 2) (Zw.d0.st 8 []) = true := by kernel_rfl
theorem Zw.r75 : leafFin (Tryz.Es Tryz.m3 (syOf Zw.t75)) Tryz.f4 (fK (Tryz.Es Tryz.m3 (syOf Zw.t75)) 100000 100000 Zw.pS (Zw.d0.st 8 []) 0) = true := by kernel_rfl
noncomputable def Zw.t81 : List SE := ncL [⟨.bin .rem, (ch 1000), (.int .i64 12), (ch 1002)⟩,
  ⟨.bin .add, (ch 1002), (.int .i64 12), (ch 1003)⟩,
  ⟨.bin .rem, (ch 1003), (.int .i64 12), (.int .i64 5)⟩,
  ⟨.bin .rem, (ch 1001), (.int .i64 14), (ch 1004)⟩,
  ⟨.bin .add, (ch 1004), (.int .i64 14), (ch 1005)⟩,
  ⟨.bin .rem, (ch 1005), (.int .i64 14), (.int .i64 11)⟩]
theorem Zw.i81 : Zw.d0.sub 8 [] (idl 8 Zw.d0.objs) (idA 2) (Zw.d0.st 8 []) = true := by kernel_rfl
theorem Zw.r81 : leafFin (Tryz.Es Tryz.m3 (syOf Zw.t81)) Tryz.f4 (fK (Tryz.Es Tryz.m3 (syOf Zw.t81)) 100000 100000 Zw.pS (Zw.d0.st 8 []) 0) = true := by kernel_rfl
noncomputable def Zw.t87 : List SE := ncL [⟨.bin .rem, (ch 1000), (.int .i64 12), (ch 1002)⟩,
  ⟨.bin .add, (ch 1002), (.int .i64 12), (ch 1003)⟩,
  ⟨.bin .rem, (ch 1003), (.int .i64 12), (.int .i64 6)⟩,
  ⟨.bin .rem, (ch 1001), (.int .i64 14), (ch 1004)⟩,
  ⟨.bin .add, (ch 1004), (.int .i64 14), (ch 1005)⟩,
  ⟨.bin .rem, (ch 1005), (.int .i64 14), (.int .i64 3)⟩]
theorem Zw.i87 : Zw.d0.sub 8 [] (idl 8 Zw.d0.objs) (idA 2) (Zw.d0.st 8 []) = true := by kernel_rfl
theorem Zw.r87 : leafFin (Tryz.Es Tryz.m3 (syOf Zw.t87)) Tryz.f4 (fK (Tryz.Es Tryz.m3 (syOf Zw.t87)) 100000 100000 Zw.pS (Zw.d0.st 8 []) 0) = true := by kernel_rfl
noncomputable def Zw.t93 : List SE := ncL [⟨.bin .rem, (ch 1000), (.int .i64 12), (ch 1002)⟩,
  ⟨.bin .add, (ch 1002), (.int .i64 12), (ch 1003)⟩,
  ⟨.bin .rem, (ch 1003), (.int .i64 12), (.int .i64 6)⟩,
  ⟨.bin .rem, (ch 1001), (.int .i64 14), (ch 1004)⟩,
  ⟨.bin .add, (ch 1004), (.int .i64 14), (ch 1005)⟩,
  ⟨.bin .rem, (ch 1005), (.int .i64 14), (.int .i64 9)⟩]
theorem Zw.i93 : Zw.d0.sub 8 [] (idl 8 Zw.d0.objs) (idA 2) (Zw.d0.st 8 []) = true := by kernel_rfl
theorem Zw.r93 : leafFin (Tryz.Es Tryz.m3 (syOf Zw.t93)) Tryz.f4 (fK (Tryz.Es Tryz.m3 (syOf Zw.t93)) 100000 100000 Zw.pS (Zw.d0.st 8 []) 0) = true := by kernel_rfl
noncomputable def Zw.t99 : List SE := ncL [⟨.bin .rem, (ch 1000), (.int .i64 12), (ch 1002)⟩,
  ⟨.bin .add, (ch 1002), (.int .i64 12), (ch 1003)⟩,
  ⟨.bin .rem, (ch 1003), (.int .i64 12), (.int .i64 7)⟩,
  ⟨.bin .rem, (ch 1001), (.int .i64 14), (ch 1004)⟩,
  ⟨.bin .add, (ch 1004), (.int .i64 14), (ch 1005)⟩,
  ⟨.bin .rem, (ch 1005), (.int .i64 14), (.int .i64 1)⟩]
theorem Zw.i99 : Zw.d0.sub 8 [] (idl 8 Zw.d0.objs) (idA 2) (Zw.d0.st 8 []) = true := by kernel_rfl
theorem Zw.r99 : leafFin (Tryz.Es Tryz.m3 (syOf Zw.t99)) Tryz.f4 (fK (Tryz.Es Tryz.m3 (syOf Zw.t99)) 100000 100000 Zw.pS (Zw.d0.st 8 []) 0) = true := by kernel_rfl
noncomputable def Zw.t105 : List SE := ncL [⟨.bin .rem, (ch 1000), (.int .i64 12), (ch 1002)⟩,
  ⟨.bin .add, (ch 1002), (.int .i64 12), (ch 1003)⟩,
  ⟨.bin .rem, (ch 1003), (.int .i64 12), (.int .i64 7)⟩,
  ⟨.bin .rem, (ch 1001), (.int .i64 14), (ch 1004)⟩,
  ⟨.bin .add, (ch 1004), (.int .i64 14), (ch 1005)⟩,
  ⟨.bin .rem, (ch 1005), (.int .i64 14), (.int .i64 7)⟩]
theorem Zw.i105 : Zw.d0.sub 8 [] (idl 8 Zw.d0.objs) (idA 2) (Zw.d0.st 8 []) = true := by kernel_rfl
theorem Zw.r105 : leafFin (Tryz.Es Tryz.m3 (syOf Zw.t105)) Tryz.f4 (fK (Tryz.Es Tryz.m3 (syOf Zw.t105)) 100000 100000 Zw.pS (Zw.d0.st 8 []) 0) = true := by kernel_rfl
noncomputable def Zw.t111 : List SE := ncL [⟨.bin .rem, (ch 1000), (.int .i64 12), (ch 1002)⟩,
  ⟨.bin .add, (ch 1002), (.int .i64 12), (ch 1003)⟩,
  ⟨.bin .rem, (ch 1003), (.int .i64 12), (.int .i64 7)⟩,
  ⟨.bin .rem, (ch 1001), (.int .i64 14), (ch 1004)⟩,
  ⟨.bin .add, (ch 1004), (.int .i64 14), (ch 1005)⟩,
  ⟨.bin .rem, (ch 1005), (.int .i64 14), (.int .i64 13)⟩]
theorem Zw.i111 : Zw.d0.sub 8 [] (idl 8 Zw.d0.objs) (idA 2) (Zw.d0.st 8 []) = true := by kernel_rfl
theorem Zw.r111 : leafFin (Tryz.Es Tryz.m3 (syOf Zw.t111)) Tryz.f4 (fK (Tryz.Es Tryz.m3 (syOf Zw.t111)) 100000 100000 Zw.pS (Zw.d0.st 8 []) 0) = true := by kernel_rfl
noncomputable def Zw.t117 : List SE := ncL [⟨.bin .rem, (ch 1000), (.int .i64 12), (ch 1002)⟩,
  ⟨.bin .add, (ch 1002), (.int .i64 12), (ch 1003)⟩,
  ⟨.bin .rem, (ch 1003), (.int .i64 12), (.int .i64 8)⟩,
  ⟨.bin .rem, (ch 1001), (.int .i64 14), (ch 1004)⟩,
  ⟨.bin .add, (ch 1004), (.int .i64 14), (ch 1005)⟩,
  ⟨.bin .rem, (ch 1005), (.int .i64 14), (.int .i64 5)⟩]
theorem Zw.i117 : Zw.d0.sub 8 [] (idl 8 Zw.d0.objs) (idA 2) (Zw.d0.st 8 []) = true := by kernel_rfl
theorem Zw.r117 : leafFin (Tryz.Es Tryz.m3 (syOf Zw.t117)) Tryz.f4 (fK (Tryz.Es Tryz.m3 (syOf Zw.t117)) 100000 100000 Zw.pS (Zw.d0.st 8 []) 0) = true := by kernel_rfl
noncomputable def Zw.t123 : List SE := ncL [⟨.bin .rem, (ch 1000), (.int .i64 12), (ch 1002)⟩,
  ⟨.bin .add, (ch 1002), (.int .i64 12), (ch 1003)⟩,
  ⟨.bin .rem, (ch 1003), (.int .i64 12), (.int .i64 8)⟩,
  ⟨.bin .rem, (ch 1001), (.int .i64 14), (ch 1004)⟩,
  ⟨.bin .add, (ch 1004), (.int .i64 14), (ch 1005)⟩,
  ⟨.bin .rem, (ch 1005), (.int .i64 14), (.int .i64 11)⟩]
theorem Zw.i123 : Zw.d0.sub 8 [] (idl 8 Zw.d0.objs) (idA 2) (Zw.d0.st 8 []) = true := by kernel_rfl
theorem Zw.r123 : leafFin (Tryz.Es Tryz.m3 (syOf Zw.t123)) Tryz.f4 (fK (Tryz.Es Tryz.m3 (syOf Zw.t123)) 100000 100000 Zw.pS (Zw.d0.st 8 []) 0) = true := by kernel_rfl
noncomputable def Zw.t129 : List SE := ncL [⟨.bin .rem, (ch 1000), (.int .i64 12), (ch 1002)⟩,
  ⟨.bin .add, (ch 1002), (.int .i64 12), (ch 1003)⟩,
  ⟨.bin .rem, (ch 1003), (.int .i64 12), (.int .i64 9)⟩,
  ⟨.bin .rem, (ch 1001), (.int .i64 14), (ch 1004)⟩,
  ⟨.bin .add, (ch 1004), (.int .i64 14), (ch 1005)⟩,
  ⟨.bin .rem, (ch 1005), (.int .i64 14), (.int .i64 3)⟩]
theorem Zw.i129 : Zw.d0.sub 8 [] (idl 8 Zw.d0.objs) (idA 2) (Zw.d0.st 8 []) = true := by kernel_rfl
theorem Zw.r129 : leafFin (Tryz.Es Tryz.m3 (syOf Zw.t129)) Tryz.f4 (fK (Tryz.Es Tryz.m3 (syOf Zw.t129)) 100000 100000 Zw.pS (Zw.d0.st 8 []) 0) = true := by kernel_rfl
noncomputable def Zw.t135 : List SE := ncL [⟨.bin .rem, (ch 1000), (.int .i64 12), (ch 1002)⟩,
  ⟨.bin .add, (ch 1002), (.int .i64 12), (ch 1003)⟩,
  ⟨.bin .rem, (ch 1003), (.int .i64 12), (.int .i64 9)⟩,
  ⟨.bin .rem, (ch 1001), (.int .i64 14), (ch 1004)⟩,
  ⟨.bin .add, (ch 1004), (.int .i64 14), (ch 1005)⟩,
  ⟨.bin .rem, (ch 1005), (.int .i64 14), (.int .i64 9)⟩]
theorem Zw.i135 : Zw.d0.sub 8 [] (idl 8 Zw.d0.objs) (idA 2) (Zw.d0.st 8 []) = true := by kernel_rfl
theorem Zw.r135 : leafFin (Tryz.Es Tryz.m3 (syOf Zw.t135)) Tryz.f4 (fK (Tryz.Es Tryz.m3 (syOf Zw.t135)) 100000 100000 Zw.pS (Zw.d0.st 8 []) 0) = true := by kernel_rfl
noncomputable def Zw.t141 : List SE := ncL [⟨.bin .rem, (ch 1000), (.int .i64 12), (ch 1002)⟩,
  ⟨.bin .add, (ch 1002), (.int .i64 12), (ch 1003)⟩,
  ⟨.bin .rem, (ch 1003), (.int .i64 12), (.int .i64 10)⟩,
  ⟨.bin .rem, (ch 1001), (.int .i64 14), (ch 1004)⟩,
  ⟨.bin .add, (ch 1004), (.int .i64 14), (ch 1005)⟩,
  ⟨.bin .rem, (ch 1005), (.int .i64 14), (.int .i64 1)⟩]
theorem Zw.i141 : Zw.d0.sub 8 [] (idl 8 Zw.d0.objs) (idA 2) (Zw.d0.st 8 []) = true := by kernel_rfl
theorem Zw.r141 : leafFin (Tryz.Es Tryz.m3 (syOf Zw.t141)) Tryz.f4 (fK (Tryz.Es Tryz.m3 (syOf Zw.t141)) 100000 100000 Zw.pS (Zw.d0.st 8 []) 0) = true := by kernel_rfl
noncomputable def Zw.t147 : List SE := ncL [⟨.bin .rem, (ch 1000), (.int .i64 12), (ch 1002)⟩,
  ⟨.bin .add, (ch 1002), (.int .i64 12), (ch 1003)⟩,
  ⟨.bin .rem, (ch 1003), (.int .i64 12), (.int .i64 10)⟩,
  ⟨.bin .rem, (ch 1001), (.int .i64 14), (ch 1004)⟩,
  ⟨.bin .add, (ch 1004), (.int .i64 14), (ch 1005)⟩,
  ⟨.bin .rem, (ch 1005), (.int .i64 14), (.int .i64 7)⟩]
theorem Zw.i147 : Zw.d0.sub 8 [] (idl 8 Zw.d0.objs) (idA 2) (Zw.d0.st 8 []) = true := by kernel_rfl
theorem Zw.r147 : leafFin (Tryz.Es Tryz.m3 (syOf Zw.t147)) Tryz.f4 (fK (Tryz.Es Tryz.m3 (syOf Zw.t147)) 100000 100000 Zw.pS (Zw.d0.st 8 []) 0) = true := by kernel_rfl
noncomputable def Zw.t153 : List SE := ncL [⟨.bin .rem, (ch 1000), (.int .i64 12), (ch 1002)⟩,
  ⟨.bin .add, (ch 1002), (.int .i64 12), (ch 1003)⟩,
  ⟨.bin .rem, (ch 1003), (.int .i64 12), (.int .i64 10)⟩,
  ⟨.bin .rem, (ch 1001), (.int .i64 14), (ch 1004)⟩,
  ⟨.bin .add, (ch 1004), (.int .i64 14), (ch 1005)⟩,
  ⟨.bin .rem, (ch 1005), (.int .i64 14), (.int .i64 13)⟩]
theorem Zw.i153 : Zw.d0.sub 8 [] (idl 8 Zw.d0.objs) (idA 2) (Zw.d0.st 8 []) = true := by kernel_rfl
theorem Zw.r153 : leafFin (Tryz.Es Tryz.m3 (syOf Zw.t153)) Tryz.f4 (fK (Tryz.Es Tryz.m3 (syOf Zw.t153)) 100000 100000 Zw.pS (Zw.d0.st 8 []) 0) = true := by kernel_rfl
noncomputable def Zw.t159 : List SE := ncL [⟨.bin .rem, (ch 1000), (.int .i64 12), (ch 1002)⟩,
  ⟨.bin .add, (ch 1002), (.int .i64 12), (ch 1003)⟩,
  ⟨.bin .rem, (ch 1003), (.int .i64 12), (.int .i64 11)⟩,
  ⟨.bin .rem, (ch 1001), (.int .i64 14), (ch 1004)⟩,
  ⟨.bin .add, (ch 1004), (.int .i64 14), (ch 1005)⟩,
  ⟨.bin .rem, (ch 1005), (.int .i64 14), (.int .i64 5)⟩]
theorem Zw.i159 : Zw.d0.sub 8 [] (idl 8 Zw.d0.objs) (idA 2) (Zw.d0.st 8 []) = true := by kernel_rfl
theorem Zw.r159 : leafFin (Tryz.Es Tryz.m3 (syOf Zw.t159)) Tryz.f4 (fK (Tryz.Es Tryz.m3 (syOf Zw.t159)) 100000 100000 Zw.pS (Zw.d0.st 8 []) 0) = true := by kernel_rfl
noncomputable def Zw.t165 : List SE := ncL [⟨.bin .rem, (ch 1000), (.int .i64 12), (ch 1002)⟩,
  ⟨.bin .add, (ch 1002), (.int .i64 12), (ch 1003)⟩,
  ⟨.bin .rem, (ch 1003), (.int .i64 12), (.int .i64 11)⟩,
  ⟨.bin .rem, (ch 1001), (.int .i64 14), (ch 1004)⟩,
  ⟨.bin .add, (ch 1004), (.int .i64 14), (ch 1005)⟩,
  ⟨.bin .rem, (ch 1005), (.int .i64 14), (.int .i64 11)⟩]
theorem Zw.i165 : Zw.d0.sub 8 [] (idl 8 Zw.d0.objs) (idA 2) (Zw.d0.st 8 []) = true := by kernel_rfl
theorem Zw.r165 : leafFin (Tryz.Es Tryz.m3 (syOf Zw.t165)) Tryz.f4 (fK (Tryz.Es Tryz.m3 (syOf Zw.t165)) 100000 100000 Zw.pS (Zw.d0.st 8 []) 0) = true := by kernel_rfl
end
end Go.Proofs
