/- Pieces of the law's run, from node to node, answered by the executor. No conditions. -/
import Derived.Test.YtjfjhmdhchjjdaaGreatDoorVSeatLogOverNd
set_option linter.all false
namespace Go.Proofs
open Go Go.Vsx
set_option maxRecDepth 1000000
noncomputable section
noncomputable def Zw.t2 : List SE := ncL [⟨.bin .rem, (ch 1000), (.int .i64 12), (ch 1002)⟩,
  ⟨.bin .add, (ch 1002), (.int .i64 12), (ch 1003)⟩,
  ⟨.bin .rem, (ch 1003), (.int .i64 12), (.int .i64 0)⟩,
  ⟨.bin .rem, (ch 1001), (.int .i64 14), (ch 1004)⟩,
  ⟨.bin .add, (ch 1004), (.int .i64 14), (ch 1005)⟩,
  ⟨.bin .rem, (ch 1005), (.int .i64 14), (.int .i64 2)⟩]
theorem Zw.i2 : Zw.d0.sub 8 [] (idl 8 Zw.d0.objs) (idA 2) (Zw.d0.st 8 []) = true := by kernel_rfl
theorem Zw.r2 : leafFin (Tryz.Es Tryz.m3 (syOf Zw.t2)) Tryz.f4 (fK (Tryz.Es Tryz.m3 (syOf Zw.t2)) 100000 100000 Zw.pS (Zw.d0.st 8 []) 0) = true := by kernel_rfl
noncomputable def Zw.t8 : List SE := ncL [⟨.bin .rem, (ch 1000), (.int .i64 12), (ch 1002)⟩,
  ⟨.bin .add, (ch 1002), (.int .i64 12), (ch 1003)⟩,
  ⟨.bin .rem, (ch 1003), (.int .i64 12), (.int .i64 0)⟩,
  ⟨.bin .rem, (ch 1001), (.int .i64 14), (ch 1004)⟩,
  ⟨.bin .add, (ch 1004), (.int .i64 14), (ch 1005)⟩,
  ⟨.bin .rem, (ch 1005), (.int .i64 14), (.int .i64 8)⟩]
theorem Zw.i8 : Zw.d0.sub 8 [] (idl 8 Zw.d0.objs) (idA 2) (Zw.d0.st 8 []) = true := by kernel_rfl
theorem Zw.r8 : leafFin (Tryz.Es Tryz.m3 (syOf Zw.t8)) Tryz.f4 (fK (Tryz.Es Tryz.m3 (syOf Zw.t8)) 100000 100000 Zw.pS (Zw.d0.st 8 []) 0) = true := by kernel_rfl
noncomputable def Zw.t14 : List SE := ncL [⟨.bin .rem, (ch 1000), (.int .i64 12), (ch 1002)⟩,
  ⟨.bin .add, (ch 1002), (.int .i64 12), (ch 1003)⟩,
  ⟨.bin .rem, (ch 1003), (.int .i64 12), (.int .i64 1)⟩,
  ⟨.bin .rem, (ch 1001), (.int .i64 14), (ch 1004)⟩,
  ⟨.bin .add, (ch 1004), (.int .i64 14), (ch 1005)⟩,
  ⟨.bin .rem, (ch 1005), (.int .i64 14), (.int .i64 0)⟩]
theorem Zw.i14 : Zw.d0.sub 8 [] (idl 8 Zw.d0.objs) (idA 2) (Zw.d0.st 8 []) = true := by kernel_rfl
theorem Zw.r14 : leafFin (Tryz.Es Tryz.m3 (syOf Zw.t14)) Tryz.f4 (fK (Tryz.Es Tryz.m3 (syOf Zw.t14)) 100000 100000 Zw.pS (Zw.d0.st 8 []) 0) = true := by kernel_rfl
noncomputable def Zw.t20 : List SE := ncL [⟨.bin .rem, (ch 1000), (.int .i64 12), (ch 1002)⟩,
  ⟨.bin .add, (ch 1002), (.int .i64 12), (ch 1003)⟩,
  ⟨.bin .rem, (ch 1003), (.int .i64 12), (.int .i64 1)⟩,
  ⟨.bin .rem, (ch 1001), (.int .i64 14), (ch 1004)⟩,
  ⟨.bin .add, (ch 1004), (.int .i64 14), (ch 1005)⟩,
  ⟨.bin .rem, (ch 1005), (.int .i64 14), (.int .i64 6)⟩]
theorem Zw.i20 : Zw.d0.sub 8 [] (idl 8 Zw.d0.objs) (idA 2) (Zw.d0.st 8 []) = true := by kernel_rfl
theorem Zw.r20 : leafFin (Tryz.Es Tryz.m3 (syOf Zw.t20)) Tryz.f4 (fK (Tryz.Es Tryz.m3 (syOf Zw.t20)) 100000 100000 Zw.pS (Zw.d0.st 8 []) 0) = true := by kernel_rfl
noncomputable def Zw.t26 : List SE := ncL [⟨.bin .rem, (ch 1000), (.int .i64 12), (ch 1002)⟩,
  ⟨.bin .add, (ch 1002), (.int .i64 12), (ch 1003)⟩,
  ⟨.bin .rem, (ch 1003), (.int .i64 12), (.int .i64 1)⟩,
  ⟨.bin .rem, (ch 1001), (.int .i64 14), (ch 1004)⟩,
  ⟨.bin .add, (ch 1004), (.int .i64 14), (ch 1005)⟩,
  ⟨.bin .rem, (ch 1005), (.int .i64 14), (.int .i64 12)⟩]
theorem Zw.i26 : Zw.d0.sub 8 [] (idl 8 Zw.d0.objs) (idA 2) (Zw.d0.st 8 []) = true := by kernel_rfl
theorem Zw.r26 : leafFin (Tryz.Es Tryz.m3 (syOf Zw.t26)) Tryz.f4 (fK (Tryz.Es Tryz.m3 (syOf Zw.t26)) 100000 100000 Zw.pS (Zw.d0.st 8 []) 0) = true := by kernel_rfl
noncomputable def Zw.t32 : List SE := ncL [⟨.bin .rem, (ch 1000), (.int .i64 12), (ch 1002)⟩,
  ⟨.bin .add, (ch 1002), (.int .i64 12), (ch 1003)⟩,
  ⟨.bin .rem, (ch 1003), (.int .i64 12), (.int .i64 2)⟩,
  ⟨.bin .rem, (ch 1001), (.int .i64 14), (ch 1004)⟩,
  ⟨.bin .add, (ch 1004), (.int .i64 14), (ch 1005)⟩,
  ⟨.bin .rem, (ch 1005), (.int .i64 14), (.int .i64 4)⟩]
theorem Zw.i32 : Zw.d0.sub 8 [] (idl 8 Zw.d0.objs) (idA 2) (Zw.d0.st 8 []) = true := by kernel_rfl
theorem Zw.r32 : leafFin (Tryz.Es Tryz.m3 (syOf Zw.t32)) Tryz.f4 (fK (Tryz.Es Tryz.m3 (syOf Zw.t32)) 100000 100000 Zw.pS (Zw.d0.st 8 []) 0) = true := by kernel_rfl
noncomputable def Zw.t38 : List SE := ncL [⟨.bin .rem, (ch 1000), (.int .i64 12), (ch 1002)⟩,
  ⟨.bin .add, (ch 1002), (.int .i64 12), (ch 1003)⟩,
  ⟨.bin .rem, (ch 1003), (.int .i64 12), (.int .i64 2)⟩,
  ⟨.bin .rem, (ch 1001), (.int .i64 14), (ch 1004)⟩,
  ⟨.bin .add, (ch 1004), (.int .i64 14), (ch 1005)⟩,
  ⟨.bin .rem, (ch 1005), (.int .i64 14), (.int .i64 10)⟩]
theorem Zw.i38 : Zw.d0.sub 8 [] (idl 8 Zw.d0.objs) (idA 2) (Zw.d0.st 8 []) = true := by kernel_rfl
theorem Zw.r38 : leafFin (Tryz.Es Tryz.m3 (syOf Zw.t38)) Tryz.f4 (fK (Tryz.Es Tryz.m3 (syOf Zw.t38)) 100000 100000 Zw.pS (Zw.d0.st 8 []) 0) = true := by kernel_rfl
noncomputable def Zw.t44 : List SE := ncL [⟨.bin .rem, (ch 1000), (.int .i64 12), (ch 1002)⟩,
  ⟨.bin .add, (ch 1002), (.int .i64 12), (ch 1003)⟩,
  ⟨.bin .rem, (ch 1003), (.int .i64 12), (.int .i64 3)⟩,
  ⟨.bin .rem, (ch 1001), (.int .i64 14), (ch 1004)⟩,
  ⟨.bin .add, (ch 1004), (.int .i64 14), (ch 1005)⟩,
  ⟨.bin .rem, (ch 1005), (.int .i64 14), (.int .i64 2)⟩]
theorem Zw.i44 : Zw.d0.sub 8 [] (idl 8 Zw.d0.objs) (idA 2) (Zw.d0.st 8 []) = true := by kernel_rfl
theorem Zw.r44 : leafFin (Tryz.Es Tryz.m3 (syOf Zw.t44)) Tryz.f4 (fK (Tryz.Es Tryz.m3 (syOf Zw.t44)) 100000 100000 Zw.pS (Zw.d0.st 8 []) 0) = true := by kernel_rfl
noncomputable def Zw.t50 : List SE := ncL [⟨.bin .rem, (ch 1000), (.int .i64 12), (ch 1002)⟩,
  ⟨.bin .add, (ch 1002), (.int .i64 12), (ch 1003)⟩,
  ⟨.bin .rem, (ch 1003), (.int .i64 12), (.int .i64 3)⟩,
  ⟨.bin .rem, (ch 1001), (.int .i64 14), (ch 1004)⟩,
  ⟨.bin .add, (ch 1004), (.int .i64 14), (ch 1005)⟩,
  ⟨.bin .rem, (ch 1005), (.int .i64 14), (.int .i64 8)⟩]
theorem Zw.i50 : Zw.d0.sub 8 [] (idl 8 Zw.d0.objs) (idA 2) (Zw.d0.st 8 []) = true := by kernel_rfl
theorem Zw.r50 : leafFin (Tryz.Es Tryz.m3 (syOf Zw.t50)) Tryz.f4 (fK (Tryz.Es Tryz.m3 (syOf Zw.t50)) 100000 100000 Zw.pS (Zw.d0.st 8 []) 0) = true := by kernel_rfl
noncomputable def Zw.t56 : List SE := ncL [⟨.bin .rem, (ch 1000), (.int .i64 12), (ch 1002)⟩,
  ⟨.bin .add, (ch 1002), (.int .i64 12), (ch 1003)⟩,
  ⟨.bin .rem, (ch 1003), (.int .i64 12), (.int .i64 4)⟩,
  ⟨.bin .rem, (ch 1001), (.int .i64 14), (ch 1004)⟩,
  ⟨.bin .add, (ch 1004), (.int .i64 14), (ch 1005)⟩,
  ⟨.bin .rem, (ch 1005), (.int .i64 14), (.int .i64 0)⟩]
theorem Zw.i56 : Zw.d0.sub 8 [] (idl 8 Zw.d0.objs) (idA 2) (Zw.d0.st 8 []) = true := by kernel_rfl
theorem Zw.r56 : leafFin (Tryz.Es Tryz.m3 (syOf Zw.t56)) Tryz.f4 (fK (Tryz.Es Tryz.m3 (syOf Zw.t56)) 100000 100000 Zw.pS (Zw.d0.st 8 []) 0) = true := by kernel_rfl
noncomputable def Zw.t62 : List SE := ncL [⟨.bin .rem, (ch 1000), (.int .i64 12), (ch 1002)⟩,
  ⟨.bin .add, (ch 1002), (.int .i64 12), (ch 1003)⟩,
  ⟨.bin .rem, (ch 1003), (.int .i64 12), (.int .i64 4)⟩,
  ⟨.bin .rem, (ch 1001), (.int .i64 14), (ch 1004)⟩,
  ⟨.bin .add, (ch 1004), (.int .i64 14), (ch 1005)⟩,
  ⟨.bin .rem, (ch 1005), (.int .i64 14), (.int .i64 6)⟩]
theorem Zw.i62 : Zw.d0.sub 8 [] (idl 8 Zw.d0.objs) (idA 2) (Zw.d0.st 8 []) = true := by kernel_rfl
theorem Zw.r62 : leafFin (Tryz.Es Tryz.m3 (syOf Zw.t62)) Tryz.f4 (fK (Tryz.Es Tryz.m3 (syOf Zw.t62)) 100000 100000 Zw.pS (Zw.d0.st 8 []) 0) = true := by kernel_rfl
noncomputable def Zw.t68 : List SE := ncL [⟨.bin .rem, (ch 1000), (.int .i64 12), (ch 1002)⟩,
  ⟨.bin .add, (ch 1002), (.int .i64 12), (ch 1003)⟩,
  ⟨.bin .rem, (ch 1003), (.int .i64 12), (.int .i64 4)⟩,
  ⟨.bin .rem, (ch 1001), (.int .i64 14), (ch 1004)⟩,
  ⟨.bin .add, (ch 1004), (.int .i64 14), (ch 1005)⟩,
  ⟨.bin .rem, (ch 1005), (.int .i64 14), (.int .i64 12)⟩]
theorem Zw.i68 : Zw.d0.sub 8 [] (idl 8 Zw.d0.objs) (idA 2) (Zw.d0.st 8 []) = true := by kernel_rfl
theorem Zw.r68 : leafFin (Tryz.Es Tryz.m3 (syOf Zw.t68)) Tryz.f4 (fK (Tryz.Es Tryz.m3 (syOf Zw.t68)) 100000 100000 Zw.pS (Zw.d0.st 8 []) 0) = true := by kernel_rfl
noncomputable def Zw.t74 : List SE := ncL [⟨.bin .rem, (ch 1000), (.int .i64 12), (ch 1002)⟩,
  ⟨.bin .add, (ch 1002), (.int .i64 12), (ch 1003)⟩,
  ⟨.bin .rem, (ch 1003), (.int .i64 12), (.int .i64 5)⟩,
  ⟨.bin .rem, (ch 1001), (.int .i64 14), (ch 1004)⟩,
  ⟨.bin .add, (ch 1004), (.int .i64 14), (ch 1005)⟩,
  ⟨.bin .rem, (ch 1005), (.int .i64 14), (.int .i64 4)⟩]
theorem Zw.i74 : Zw.d0.sub 8 [] (idl 8 Zw.d0.objs) (idA 2) (Zw.d0.st 8 []) = true := by kernel_rfl
theorem Zw.r74 : leafFin (Tryz.Es Tryz.m3 (syOf Zw.t74)) Tryz.f4 (fK (Tryz.Es Tryz.m3 (syOf Zw.t74)) 100000 100000 Zw.pS (Zw.d0.st 8 []) 0) = true := by kernel_rfl
noncomputable def Zw.t80 : List SE := ncL [⟨.bin .rem, (ch 1000), (.int .i64 12), (ch 1002)⟩,
  ⟨.bin .add, (ch 1002), (.int .i64 12), (ch 1003)⟩,
  ⟨.bin .rem, (ch 1003), (.int .i64 12), (.int .i64 5)⟩,
  ⟨.bin .rem, (ch 1001), (.int .i64 14), (ch 1004)⟩,
  ⟨.bin .add, (ch 1004), (.int .i64 14), (ch 1005)⟩,
  ⟨.bin .rem, (ch 1005), (.int .i64 14), (.int .i64 10)⟩]
theorem Zw.i80 : Zw.d0.sub 8 [] (idl 8 Zw.d0.objs) (idA 2) (Zw.d0.st 8 []) = true := by kernel_rfl
theorem Zw.r80 : leafFin (Tryz.Es Tryz.m3 (syOf Zw.t80)) Tryz.f4 (fK (Tryz.Es Tryz.m3 (syOf Zw.t80)) 100000 100000 Zw.pS (Zw.d0.st 8 []) 0) = true := by kernel_rfl
noncomputable def Zw.t86 : List SE := ncL [⟨.bin .rem, (ch 1000), (.int .i64 12), (ch 1002)⟩,
  ⟨.bin .add, (ch 1002), (.int .i64 12), (ch 1003)⟩,
  ⟨.bin .rem, (ch 1003), (.int .i64 12), (.int .i64 6)⟩,
  ⟨.bin .rem, (ch 1001), (.int .i64 14), (ch 1004)⟩,
  ⟨.bin .add, (ch 1004), (.int .i64 14), (ch 1005)⟩,
  ⟨.bin .rem, (ch 1005), (.int .i64 14), (.int .i64 2)⟩]
theorem Zw.i86 : Zw.d0.sub 8 [] (idl 8 Zw.d0.objs) (idA 2) (Zw.d0.st 8 []) = true := by kernel_rfl
theorem Zw.r86 : leafFin (Tryz.Es Tryz.m3 (syOf Zw.t86)) Tryz.f4 (fK (Tryz.Es Tryz.m3 (syOf Zw.t86)) 100000 100000 Zw.pS (Zw.d0.st 8 []) 0) = true := by kernel_rfl
noncomputable def Zw.t92 : List SE := ncL [⟨.bin .rem, (ch 1000), (.int .i64 12), (ch 1002)⟩,
  ⟨.bin .add, (ch 1002), (.int .i64 12), (ch 1003)⟩,
  ⟨.bin .rem, (ch 1003), (.int .i64 12), (.int .i64 6)⟩,
  ⟨.bin .rem, (ch 1001), (.int .i64 14), (ch 1004)⟩,
  ⟨.bin .add, (ch 1004), (.int .i64 14), (ch 1005)⟩,
  ⟨.bin .rem, (ch 1005), (.int .i64 14), (.int .i64 8)⟩]
theorem Zw.i92 : Zw.d0.sub 8 [] (idl 8 Zw.d0.objs) (idA 2) (Zw.d0.st 8 []) = true := by kernel_rfl
theorem Zw.r92 : leafFin (Tryz.Es Tryz.m3 (syOf Zw.t92)) Tryz.f4 (fK (Tryz.Es Tryz.m3 (syOf Zw.t92)) 100000 100000 Zw.pS (Zw.d0.st 8 []) 0) = true := by kernel_rfl
noncomputable def Zw.t98 : List SE := ncL [⟨.bin .rem, (ch 1000), (.int .i64 12), (ch 1002)⟩,
  ⟨.bin .add, (ch 1002), (.int .i64 12), (ch 1003)⟩,
  ⟨.bin .rem, (ch 1003), (.int .i64 12), (.int .i64 7)⟩,
  ⟨.bin .rem, (ch 1001), (.int .i64 14), (ch 1004)⟩,
  ⟨.bin .add, (ch 1004), (.int .i64 14), (ch 1005)⟩,
  ⟨.bin .rem, (ch 1005), (.int .i64 14), (.int .i64 0)⟩]
theorem Zw.i98 : Zw.d0.sub 8 [] (idl 8 Zw.d0.objs) (idA 2) (Zw.d0.st 8 []) = true := by kernel_rfl
theorem Zw.r98 : leafFin (Tryz.Es Tryz.m3 (syOf Zw.t98)) Tryz.f4 (fK (Tryz.Es Tryz.m3 (syOf Zw.t98)) 100000 100000 Zw.pS (Zw.d0.st 8 []) 0) = true := by kernel_rfl
noncomputable def Zw.t104 : List SE := ncL [⟨.bin .rem, (ch 1000), (.int .i64 12), (ch 1002)⟩,
  ⟨.bin .add, (ch 1002), (.int .i64 12), (ch 1003)⟩,
  ⟨.bin .rem, (ch 1003), (.int .i64 12), (.int .i64 7)⟩,
  ⟨.bin .rem, (ch 1001), (.int .i64 14), (ch 1004)⟩,
  ⟨.bin .add, (ch 1004), (.int .i64 14), (ch 1005)⟩,
  ⟨.bin .rem, (ch 1005), (.int .i64 14), (.int .i64 6)⟩]
theorem Zw.i104 : Zw.d0.sub 8 [] (idl 8 Zw.d0.objs) (idA 2) (Zw.d0.st 8 []) = true := by kernel_rfl
theorem Zw.r104 : leafFin (Tryz.Es Tryz.m3 (syOf Zw.t104)) Tryz.f4 (fK (Tryz.Es Tryz.m3 (syOf Zw.t104)) 100000 100000 Zw.pS (Zw.d0.st 8 []) 0) = true := by kernel_rfl
noncomputable def Zw.t110 : List SE := ncL [⟨.bin .rem, (ch 1000), (.int .i64 12), (ch 1002)⟩,
  ⟨.bin .add, (ch 1002), (.int .i64 12), (ch 1003)⟩,
  ⟨.bin .rem, (ch 1003), (.int .i64 12), (.int .i64 7)⟩,
  ⟨.bin .rem, (ch 1001), (.int .i64 14), (ch 1004)⟩,
  ⟨.bin .add, (ch 1004), (.int .i64 14), (ch 1005)⟩,
  ⟨.bin .rem, (ch 1005), (.int .i64 14), (.int .i64 12)⟩]
theorem Zw.i110 : Zw.d0.sub 8 [] (idl 8 Zw.d0.objs) (idA 2) (Zw.d0.st 8 []) = true := by kernel_rfl
theorem Zw.r110 : leafFin (Tryz.Es Tryz.m3 (syOf Zw.t110)) Tryz.f4 (fK (Tryz.Es Tryz.m3 (syOf Zw.t110)) 100000 100000 Zw.pS (Zw.d0.st 8 []) 0) = true := by kernel_rfl
noncomputable def Zw.t116 : List SE := ncL [⟨.bin .rem, (ch 1000), (.int .i64 12), (ch 1002)⟩,
  ⟨.bin .add, (ch 1002), (.int .i64 12), (ch 1003)⟩,
  ⟨.bin .rem, (ch 1003), (.int .i64 12), (.int .i64 8)⟩,
  ⟨.bin .rem, (ch 1001), (.int .i64 14), (ch 1004)⟩,
  ⟨.bin .add, (ch 1004), (.int .i64 14), (ch 1005)⟩,
  ⟨.bin .rem, (ch 1005), (.int .i64 14), (.int .i64 4)⟩]
theorem Zw.i116 : Zw.d0.sub 8 [] (idl 8 Zw.d0.objs) (idA 2) (Zw.d0.st 8 []) = true := by kernel_rfl
theorem Zw.r116 : leafFin (Tryz.Es Tryz.m3 (syOf Zw.t116)) Tryz.f4 (fK (Tryz.Es Tryz.m3 (syOf Zw.t116)) 100000 100000 Zw.pS (Zw.d0.st 8 []) 0) = true := by kernel_rfl
noncomputable def Zw.t122 : List SE := ncL [⟨.bin .rem, (ch 1000), (.int .i64 12), (ch 1002)⟩,
  ⟨.bin .add, (ch 1002), (.int .i64 12), (ch 1003)⟩,
  ⟨.bin .rem, (ch 1003), (.int .i64 12), (.int .i64 8)⟩,
  ⟨.bin .rem, (ch 1001), (.int .i64 14), (ch 1004)⟩,
  ⟨.bin .add, (ch 1004), (.int .i64 14), (ch 1005)⟩,
  ⟨.bin .rem, (ch 1005), (.int .i64 14), (.int .i64 10)⟩]
theorem Zw.i122 : Zw.d0.sub 8 [] (idl 8 Zw.d0.objs) (idA 2) (Zw.d0.st 8 []) = true := by kernel_rfl
theorem Zw.r122 : leafFin (Tryz.Es Tryz.m3 (syOf Zw.t122)) Tryz.f4 (fK (Tryz.Es Tryz.m3 (syOf Zw.t122)) 100000 100000 Zw.pS (Zw.d0.st 8 []) 0) = true := by kernel_rfl
noncomputable def Zw.t128 : List SE := ncL [⟨.bin .rem, (ch 1000), (.int .i64 12), (ch 1002)⟩,
  ⟨.bin .add, (ch 1002), (.int .i64 12), (ch 1003)⟩,
  ⟨.bin .rem, (ch 1003), (.int .i64 12), (.int .i64 9)⟩,
  ⟨.bin .rem, (ch 1001), (.int .i64 14), (ch 1004)⟩,
  ⟨.bin .add, (ch 1004), (.int .i64 14), (ch 1005)⟩,
  ⟨.bin .rem, (ch 1005), (.int .i64 14), (.int .i64 2)⟩]
theorem Zw.i128 : Zw.d0.sub 8 [] (idl 8 Zw.d0.objs) (idA 2) (Zw.d0.st 8 []) = true := by kernel_rfl
theorem Zw.r128 : leafFin (Tryz.Es Tryz.m3 (syOf Zw.t128)) Tryz.f4 (fK (Tryz.Es Tryz.m3 (syOf Zw.t128)) 100000 100000 Zw.pS (Zw.d0.st 8 []) 0) = true := by kernel_rfl
noncomputable def Zw.t134 : List SE := ncL [⟨.bin .rem, (ch 1000), (.int .i64 12), (ch 1002)⟩,
  ⟨.bin .add, (ch 1002), (.int .i64 12), (ch 1003)⟩,
  ⟨.bin .rem, (ch 1003), (.int .i64 12), (.int .i64 9)⟩,
  ⟨.bin .rem, (ch 1001), (.int .i64 14), (ch 1004)⟩,
  ⟨.bin .add, (ch 1004), (.int .i64 14), (ch 1005)⟩,
  ⟨.bin .rem, (ch 1005), (.int .i64 14), (.int .i64 8)⟩]
theorem Zw.i134 : Zw.d0.sub 8 [] (idl 8 Zw.d0.objs) (idA 2) (Zw.d0.st 8 []) = true := by kernel_rfl
theorem Zw.r134 : leafFin (Tryz.Es Tryz.m3 (syOf Zw.t134)) Tryz.f4 (fK (Tryz.Es Tryz.m3 (syOf Zw.t134)) 100000 100000 Zw.pS (Zw.d0.st 8 []) 0) = true := by kernel_rfl
noncomputable def Zw.t140 : List SE := ncL [⟨.bin .rem, (ch 1000), (.int .i64 12), (ch 1002)⟩,
  ⟨.bin .add, (ch 1002), (.int .i64 12), (ch 1003)⟩,
  ⟨.bin .rem, (ch 1003), (.int .i64 12), (.int .i64 10)⟩,
  ⟨.bin .rem, (ch 1001), (.int .i64 14), (ch 1004)⟩,
  ⟨.bin .add, (ch 1004), (.int .i64 14), (ch 1005)⟩,
  ⟨.bin .rem, (ch 1005), (.int .i64 14), (.int .i64 0)⟩]
theorem Zw.i140 : Zw.d0.sub 8 [] (idl 8 Zw.d0.objs) (idA 2) (Zw.d0.st 8 []) = true := by kernel_rfl
theorem Zw.r140 : leafFin (Tryz.Es Tryz.m3 (syOf Zw.t140)) Tryz.f4 (fK (Tryz.Es Tryz.m3 (syOf Zw.t140)) 100000 100000 Zw.pS (Zw.d0.st 8 []) 0) = true := by kernel_rfl
noncomputable def Zw.t146 : List SE := ncL [⟨.bin .rem, (ch 1000), (.int .i64 12), (ch 1002)⟩,
  ⟨.bin .add, (ch 1002), (.int .i64 12), (ch 1003)⟩,
  ⟨.bin .rem, (ch 1003), (.int .i64 12), (.int .i64 10)⟩,
  ⟨.bin .rem, (ch 1001), (.int .i64 14), (ch 1004)⟩,
  ⟨.bin .add, (ch 1004), (.int .i64 14), (ch 1005)⟩,
  ⟨.bin .rem, (ch 1005), (.int .i64 14), (.int .i64 6)⟩]
theorem Zw.i146 : Zw.d0.sub 8 [] (idl 8 Zw.d0.objs) (idA 2) (Zw.d0.st 8 []) = true := by kernel_rfl
theorem Zw.r146 : leafFin (Tryz.Es Tryz.m3 (syOf Zw.t146)) Tryz.f4 (fK (Tryz.Es Tryz.m3 (syOf Zw.t146)) 100000 100000 Zw.pS (Zw.d0.st 8 []) 0) = true := by kernel_rfl
noncomputable def Zw.t152 : List SE := ncL [⟨.bin .rem, (ch 1000), (.int .i64 12), (ch 1002)⟩,
  ⟨.bin .add, (ch 1002), (.int .i64 12), (ch 1003)⟩,
  ⟨.bin .rem, (ch 1003), (.int .i64 12), (.int .i64 10)⟩,
  ⟨.bin .rem, (ch 1001), (.int .i64 14), (ch 1004)⟩,
  ⟨.bin .add, (ch 1004), (.int .i64 14), (ch 1005)⟩,
  ⟨.bin .rem, (ch 1005), (.int .i64 14), (.int .i64 12)⟩]
theorem Zw.i152 : Zw.d0.sub 8 [] (idl 8 Zw.d0.objs) (idA 2) (Zw.d0.st 8 []) = true := by kernel_rfl
theorem Zw.r152 : leafFin (Tryz.Es Tryz.m3 (syOf Zw.t152)) Tryz.f4 (fK (Tryz.Es Tryz.m3 (syOf Zw.t152)) 100000 100000 Zw.pS (Zw.d0.st 8 []) 0) = true := by kernel_rfl
noncomputable def Zw.t158 : List SE := ncL [⟨.bin .rem, (ch 1000), (.int .i64 12), (ch 1002)⟩,
  ⟨.bin .add, (ch 1002), (.int .i64 12), (ch 1003)⟩,
  ⟨.bin .rem, (ch 1003), (.int .i64 12), (.int .i64 11)⟩,
  ⟨.bin .rem, (ch 1001), (.int .i64 14), (ch 1004)⟩,
  ⟨.bin .add, (ch 1004), (.int .i64 14), (ch 1005)⟩,
  ⟨.bin .rem, (ch 1005), (.int .i64 14), (.int .i64 4)⟩]
theorem Zw.i158 : Zw.d0.sub 8 [] (idl 8 Zw.d0.objs) (idA 2) (Zw.d0.st 8 []) = true := by kernel_rfl
theorem Zw.r158 : leafFin (Tryz.Es Tryz.m3 (syOf Zw.t158)) Tryz.f4 (fK (Tryz.Es Tryz.m3 (syOf Zw.t158)) 100000 100000 Zw.pS (Zw.d0.st 8 []) 0) = true := by kernel_rfl
noncomputable def Zw.t164 : List SE := ncL [⟨.bin .rem, (ch 1000), (.int .i64 12), (ch 1002)⟩,
  ⟨.bin .add, (ch 1002), (.int .i64 12), (ch 1003)⟩,
  ⟨.bin .rem, (ch 1003), (.int .i64 12), (.int .i64 11)⟩,
  ⟨.bin .rem, (ch 1001), (.int .i64 14), (ch 1004)⟩,
  ⟨.bin .add, (ch 1004), (.int .i64 14), (ch 1005)⟩,
  ⟨.bin .rem, (ch 1005), (.int .i64 14), (.int .i64 10)⟩]
theorem Zw.i164 : Zw.d0.sub 8 [] (idl 8 Zw.d0.objs) (idA 2) (Zw.d0.st 8 []) = true := by kernel_rfl
theorem Zw.r164 : leafFin (Tryz.Es Tryz.m3 (syOf Zw.t164)) Tryz.f4 (fK (Tryz.Es Tryz.m3 (syOf Zw.t164)) 100000 100000 Zw.pS (Zw.d0.st 8 []) 0) = true := by kernel_rfl
end
end Go.Proofs
