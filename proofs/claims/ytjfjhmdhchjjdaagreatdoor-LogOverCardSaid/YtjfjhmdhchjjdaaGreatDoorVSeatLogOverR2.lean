/- Pieces of the law's run, from node to node, answered by the executor. No conditions. -/
import Derived.Test.YtjfjhmdhchjjdaaGreatDoorVSeatLogOverNd
set_option linter.all false
namespace Go.Proofs
open Go Go.Vsx
set_option maxRecDepth 1000000
noncomputable section
noncomputable def Zw.t1 : List SE := ncL [⟨.bin .rem, (ch 1000), (.int .i64 12), (ch 1002)⟩,
  ⟨.bin .add, (ch 1002), (.int .i64 12), (ch 1003)⟩,
  ⟨.bin .rem, (ch 1003), (.int .i64 12), (.int .i64 0)⟩,
  ⟨.bin .rem, (ch 1001), (.int .i64 14), (ch 1004)⟩,
  ⟨.bin .add, (ch 1004), (.int .i64 14), (ch 1005)⟩,
  ⟨.bin .rem, (ch 1005), (.int .i64 14), (.int .i64 1)⟩]
theorem Zw.i1 : Zw.d0.sub 8 [] (idl 8 Zw.d0.objs) (idA 2) (Zw.d0.st 8 []) = true := by kernel_rfl
theorem Zw.r1 : leafFin (Tryz.Es Tryz.m3 (syOf Zw.t1)) Tryz.f4 (fK (Tryz.Es Tryz.m3 (syOf Zw.t1)) 100000 100000 Zw.pS (Zw.d0.st 8 []) 0) = true := by kernel_rfl
noncomputable def Zw.t7 : List SE := ncL [⟨.bin .rem, (ch 1000), (.int .i64 12), (ch 1002)⟩,
  ⟨.bin .add, (ch 1002), (.int .i64 12), (ch 1003)⟩,
  ⟨.bin .rem, (ch 1003), (.int .i64 12), (.int .i64 0)⟩,
  ⟨.bin .rem, (ch 1001), (.int .i64 14), (ch 1004)⟩,
  ⟨.bin .add, (ch 1004), (.int .i64 14), (ch 1005)⟩,
  ⟨.bin .rem, (ch 1005), (.int .i64 14), (.int .i64 7)⟩]
theorem Zw.i7 : Zw.d0.sub 8 [] (idl 8 Zw.d0.objs) (idA 2) (Zw.d0.st 8 []) = true := by kernel_rfl
theorem Zw.r7 : leafFin (Tryz.Es Tryz.m3 (syOf Zw.t7)) Tryz.f4 (fK (Tryz.Es Tryz.m3 (syOf Zw.t7)) 100000 100000 Zw.pS (Zw.d0.st 8 []) 0) = true := by kernel_rfl
noncomputable def Zw.t13 : List SE := ncL [⟨.bin .rem, (ch 1000), (.int .i64 12), (ch 1002)⟩,
  ⟨.bin .add, (ch 1002), (.int .i64 12), (ch 1003)⟩,
  ⟨.bin .rem, (ch 1003), (.int .i64 12), (.int .i64 0)⟩,
  ⟨.bin .rem, (ch 1001), (.int .i64 14), (ch 1004)⟩,
  ⟨.bin .add, (ch 1004), (.int .i64 14), (ch 1005)⟩,
  ⟨.bin .rem, (ch 1005), (.int .i64 14), (.int .i64 13)⟩]
theorem Zw.i13 : Zw.d0.sub 8 [] (idl 8 Zw.d0.objs) (idA 2) (Zw.d0.st 8 []) = true := by kernel_rfl
theorem Zw.r13 : leafFin (Tryz.Es Tryz.m3 (syOf Zw.t13)) Tryz.f4 (fK (Tryz.Es Tryz.m3 (syOf Zw.t13)) 100000 100000 Zw.pS (Zw.d0.st 8 []) 0) = true := by kernel_rfl
noncomputable def Zw.t19 : List SE := ncL [⟨.bin .rem, (ch 1000), (.int .i64 12), (ch 1002)⟩,
  ⟨.bin .add, (ch 1002), (.int .i64 12), (ch 1003)⟩,
  ⟨.bin .rem, (ch 1003), (.int .i64 12), (.int .i64 1)⟩,
  ⟨.bin .rem, (ch 1001), (.int .i64 14), (ch 1004)⟩,
  ⟨.bin .add, (ch 1004), (.int .i64 14), (ch 1005)⟩,
  ⟨.bin .rem, (ch 1005), (.int .i64 14), (.int .i64 5)⟩]
theorem Zw.i19 : Zw.d0.sub 8 [] (idl 8 Zw.d0.objs) (idA 2) (Zw.d0.st 8 []) = true := by kernel_rfl
theorem Zw.r19 : leafFin (Tryz.Es Tryz.m3 (syOf Zw.t19)) Tryz.f4 (fK (Tryz.Es Tryz.m3 (syOf Zw.t19)) 100000 100000 Zw.pS (Zw.d0.st 8 []) 0) = true := by kernel_rfl
noncomputable def Zw.t25 : List SE := ncL [⟨.bin .rem, (ch 1000), (.int .i64 12), (ch 1002)⟩,
  ⟨.bin .add, (ch 1002), (.int .i64 12), (ch 1003)⟩,
  ⟨.bin .rem, (ch 1003), (.int .i64 12), (.int .i64 1)⟩,
  ⟨.bin .rem, (ch 1001), (.int .i64 14), (ch 1004)⟩,
  ⟨.bin .add, (ch 1004), (.int .i64 14), (ch 1005)⟩,
  ⟨.bin .rem, (ch 1005), (.int .i64 14), (.int .i64 11)⟩]
theorem Zw.i25 : Zw.d0.sub 8 [] (idl 8 Zw.d0.objs) (idA 2) (Zw.d0.st 8 []) = true := by kernel_rfl
theorem Zw.r25 : leafFin (Tryz.Es Tryz.m3 (syOf Zw.t25)) Tryz.f4 (fK (Tryz.Es Tryz.m3 (syOf Zw.t25)) 100000 100000 Zw.pS (Zw.d0.st 8 []) 0) = true := by kernel_rfl
noncomputable def Zw.t31 : List SE := ncL [⟨.bin .rem, (ch 1000), (.int .i64 12), (ch 1002)⟩,
  ⟨.bin .add, (ch 1002), (.int .i64 12), (ch 1003)⟩,
  ⟨.bin .rem, (ch 1003), (.int .i64 12), (.int .i64 2)⟩,
  ⟨.bin .rem, (ch 1001), (.int .i64 14), (ch 1004)⟩,
  ⟨.bin .add, (ch 1004), (.int .i64 14), (ch 1005)⟩,
  ⟨.bin .rem, (ch 1005), (.int .i64 14), (.int .i64 3)⟩]
theorem Zw.i31 : Zw.d0.sub 8 [] (idl 8 Zw.d0.objs) (idA 2) (Zw.d0.st 8 []) = true := by kernel_rfl
theorem Zw.r31 : leafFin (Tryz.Es Tryz.m3 (syOf Zw.t31)) Tryz.f4 (fK (Tryz.Es Tryz.m3 (syOf Zw.t31)) 100000 100000 Zw.pS (Zw.d0.st 8 []) 0) = true := by kernel_rfl
noncomputable def Zw.t37 : List SE := ncL [⟨.bin .rem, (ch 1000), (.int .i64 12), (ch 1002)⟩,
  ⟨.bin .add, (ch 1002), (.int .i64 12), (ch 1003)⟩,
  ⟨.bin .rem, (ch 1003), (.int .i64 12), (.int .i64 2)⟩,
  ⟨.bin .rem, (ch 1001), (.int .i64 14), (ch 1004)⟩,
  ⟨.bin .add, (ch 1004), (.int .i64 14), (ch 1005)⟩,
  ⟨.bin .rem, (ch 1005), (.int .i64 14), (.int .i64 9)⟩]
theorem Zw.i37 : Zw.d0.sub 8 [] (idl 8 Zw.d0.objs) (idA 2) (Zw.d0.st 8 []) = true := by kernel_rfl
theorem Zw.r37 : leafFin (Tryz.Es Tryz.m3 (syOf Zw.t37)) Tryz.f4 (fK (Tryz.Es Tryz.m3 (syOf Zw.t37)) 100000 100000 Zw.pS (Zw.d0.st 8 []) 0) = true := by kernel_rfl
noncomputable def Zw.t43 : List SE := ncL [⟨.bin .rem, (ch 1000), (.int .i64 12), (ch 1002)⟩,
  ⟨.bin .add, (ch 1002), (.int .i64 12), (ch 1003)⟩,
  ⟨.bin .rem, (ch 1003), (.int .i64 12), (.int .i64 3)⟩,
  ⟨.bin .rem, (ch 1001), (.int .i64 14), (ch 1004)⟩,
  ⟨.bin .add, (ch 1004), (.int .i64 14), (ch 1005)⟩,
  ⟨.bin .rem, (ch 1005), (.int .i64 14), (.int .i64 1)⟩]
theorem Zw.i43 : Zw.d0.sub 8 [] (idl 8 Zw.d0.objs) (idA 2) (Zw.d0.st 8 []) = true := by kernel_rfl
theorem Zw.r43 : leafFin (Tryz.Es Tryz.m3 (syOf Zw.t43)) Tryz.f4 (fK (Tryz.Es Tryz.m3 (syOf Zw.t43)) 100000 100000 Zw.pS (Zw.d0.st 8 []) 0) = true := by kernel_rfl
noncomputable def Zw.t49 : List SE := ncL [⟨.bin .rem, (ch 1000), (.int .i64 12), (ch 1002)⟩,
  ⟨.bin .add, (ch 1002), (.int .i64 12), (ch 1003)⟩,
  ⟨.bin .rem, (ch 1003), (.int .i64 12), (.int .i64 3)⟩,
  ⟨.bin .rem, (ch 1001), (.int .i64 14), (ch 1004)⟩,
  ⟨.bin .add, (ch 1004), (.int .i64 14), (ch 1005)⟩,
  ⟨.bin .rem, (ch 1005), (.int .i64 14), (.int .i64 7)⟩]
theorem Zw.i49 : Zw.d0.sub 8 [] (idl 8 Zw.d0.objs) (idA 2) (Zw.d0.st 8 []) = true := by kernel_rfl
theorem Zw.r49 : leafFin (Tryz.Es Tryz.m3 (syOf Zw.t49)) Tryz.f4 (fK (Tryz.Es Tryz.m3 (syOf Zw.t49)) 100000 100000 Zw.pS (Zw.d0.st 8 []) 0) = true := by kernel_rfl
noncomputable def Zw.t55 : List SE := ncL [⟨.bin .rem, (ch 1000), (.int .i64 12), (ch 1002)⟩,
  ⟨.bin .add, (ch 1002), (.int .i64 12), (ch 1003)⟩,
  ⟨.bin .rem, (ch 1003), (.int .i64 12), (.int .i64 3)⟩,
  ⟨.bin .rem, (ch 1001), (.int .i64 14), (ch 1004)⟩,
  ⟨.bin .add, (ch 1004), (.int .i64 14), (ch 1005)⟩,
  ⟨.bin .rem, (ch 1005), (.int .i64 14), (.int .i64 13)⟩]
theorem Zw.i55 : Zw.d0.sub 8 [] (idl 8 Zw.d0.objs) (idA 2) (Zw.d0.st 8 []) = true := by kernel_rfl
theorem Zw.r55 : leafFin (Tryz.Es Tryz.m3 (syOf Zw.t55)) Tryz.f4 (fK (Tryz.Es Tryz.m3 (syOf Zw.t55)) 100000 100000 Zw.pS (Zw.d0.st 8 []) 0) = true := by kernel_rfl
noncomputable def Zw.t61 : List SE := ncL [⟨.bin .rem, (ch 1000), (.int .i64 12), (ch 1002)⟩,
  ⟨.bin .add, (ch 1002), (.int .i64 12), (ch 1003)⟩,
  ⟨.bin .rem, (ch 1003), (.int .i64 12), (.int .i64 4)⟩,
  ⟨.bin .rem, (ch 1001), (.int .i64 14), (ch 1004)⟩,
  ⟨.bin .add, (ch 1004), (.int .i64 14), (ch 1005)⟩,
  ⟨.bin .rem, (ch 1005), (.int .i64 14), (.int .i64 5)⟩]
theorem Zw.i61 : Zw.d0.sub 8 [] (idl 8 Zw.d0.objs) (idA 2) (Zw.d0.st 8 []) = true := by kernel_rfl
theorem Zw.r61 : leafFin (Tryz.Es Tryz.m3 (syOf Zw.t61)) Tryz.f4 (fK (Tryz.Es Tryz.m3 (syOf Zw.t61)) 100000 100000 Zw.pS (Zw.d0.st 8 []) 0) = true := by kernel_rfl
noncomputable def Zw.t67 : List SE := ncL [⟨.bin .rem, (ch 1000), (.int .i64 12), (ch 1002)⟩,
  ⟨.bin .add, (ch 1002), (.int .i64 12), (ch 1003)⟩,
  ⟨.bin .rem, (ch 1003), (.int .i64 12), (.int .i64 4)⟩,
  ⟨.bin .rem, (ch 1001), (.int .i64 14), (ch 1004)⟩,
  ⟨.bin .add, (ch 1004), (.int .i64 14), (ch 1005)⟩,
  ⟨.bin .rem, (ch 1005), (.int .i64 14), (.int .i64 11)⟩]
theorem Zw.i67 : Zw.d0.sub 8 [] (idl 8 Zw.d0.objs) (idA 2) (Zw.d0.st 8 []) = true := by kernel_rfl
theorem Zw.r67 : leafFin (Tryz.Es Tryz.m3 (syOf Zw.t67)) Tryz.f4 (fK (Tryz.Es Tryz.m3 (syOf Zw.t67)) 100000 100000 Zw.pS (Zw.d0.st 8 []) 0) = true := by kernel_rfl
noncomputable def Zw.t73 : List SE := ncL [⟨.bin .rem, (ch 1000), (.int .i64 12), (ch 1002)⟩,
  ⟨.bin .add, (ch 1002), (.int .i64 12), (ch 1003)⟩,
  ⟨.bin .rem, (ch 1003), (.int .i64 12), (.int .i64 5)⟩,
  ⟨.bin .rem, (ch 1001), (.int .i64 14), (ch 1004)⟩,
  ⟨.bin .add, (ch 1004), (.int .i64 14), (ch 1005)⟩,
  ⟨.bin .rem, (ch 1005), (.int .i64 14), (.int .i64 3)⟩]
theorem Zw.i73 : Zw.d0.sub 8 [] (idl 8 Zw.d0.objs) (idA 2) (Zw.d0.st 8 []) = true := by kernel_rfl
theorem Zw.r73 : leafFin (Tryz.Es Tryz.m3 (syOf Zw.t73)) Tryz.f4 (fK (Tryz.Es Tryz.m3 (syOf Zw.t73)) 100000 100000 Zw.pS (Zw.d0.st 8 []) 0) = true := by kernel_rfl
noncomputable def Zw.t79 : List SE := ncL [⟨.bin .rem, (ch 1000), (.int .i64 12), (ch 1002)⟩,
  ⟨.bin .add, (ch 1002), (.int .i64 12), (ch 1003)⟩,
  ⟨.bin .rem, (ch 1003), (.int .i64 12), (.int .i64 5)⟩,
  ⟨.bin .rem, (ch 1001), (.int .i64 14), (ch 1004)⟩,
  ⟨.bin .add, (ch 1004), (.int .i64 14), (ch 1005)⟩,
  ⟨.bin .rem, (ch 1005), (.int .i64 14), (.int .i64 9)⟩]
theorem Zw.i79 : Zw.d0.sub 8 [] (idl 8 Zw.d0.objs) (idA 2) (Zw.d0.st 8 []) = true := by kernel_rfl
theorem Zw.r79 : leafFin (Tryz.Es Tryz.m3 (syOf Zw.t79)) Tryz.f4 (fK (Tryz.Es Tryz.m3 (syOf Zw.t79)) 100000 100000 Zw.pS (Zw.d0.st 8 []) 0) = true := by kernel_rfl
noncomputable def Zw.t85 : List SE := ncL [⟨.bin .rem, (ch 1000), (.int .i64 12), (ch 1002)⟩,
  ⟨.bin .add, (ch 1002), (.int .i64 12), (ch 1003)⟩,
  ⟨.bin .rem, (ch 1003), (.int .i64 12), (.int .i64 6)⟩,
  ⟨.bin .rem, (ch 1001), (.int .i64 14), (ch 1004)⟩,
  ⟨.bin .add, (ch 1004), (.int .i64 14), (ch 1005)⟩,
  ⟨.bin .rem, (ch 1005), (.int .i64 14), (.int .i64 1)⟩]
theorem Zw.i85 : Zw.d0.sub 8 [] (idl 8 Zw.d0.objs) (idA 2) (Zw.d0.st 8 []) = true := by kernel_rfl
theorem Zw.r85 : leafFin (Tryz.Es Tryz.m3 (syOf Zw.t85)) Tryz.f4 (fK (Tryz.Es Tryz.m3 (syOf Zw.t85)) 100000 100000 Zw.pS (Zw.d0.st 8 []) 0) = true := by kernel_rfl
noncomputable def Zw.t91 : List SE := ncL [⟨.bin .rem, (ch 1000), (.int .i64 12), (ch 1002)⟩,
  ⟨.bin .add, (ch 1002), (.int .i64 12), (ch 1003)⟩,
  ⟨.bin .rem, (ch 1003), (.int .i64 12), (.int .i64 6)⟩,
  ⟨.bin .rem, (ch 1001), (.int .i64 14), (ch 1004)⟩,
  ⟨.bin .add, (ch 1004), (.int .i64 14), (ch 1005)⟩,
  ⟨.bin .rem, (ch 1005), (.int .i64 14), (.int .i64 7)⟩]
theorem Zw.i91 : Zw.d0.sub 8 [] (idl 8 Zw.d0.objs) (idA 2) (Zw.d0.st 8 []) = true := by kernel_rfl
theorem Zw.r91 : leafFin (Tryz.Es Tryz.m3 (syOf Zw.t91)) Tryz.f4 (fK (Tryz.Es Tryz.m3 (syOf Zw.t91)) 100000 100000 Zw.pS (Zw.d0.st 8 []) 0) = true := by kernel_rfl
noncomputable def Zw.t97 : List SE := ncL [⟨.bin .rem, (ch 1000), (.int .i64 12), (ch 1002)⟩,
  ⟨.bin .add, (ch 1002), (.int .i64 12), (ch 1003)⟩,
  ⟨.bin .rem, (ch 1003), (.int .i64 12), (.int .i64 6)⟩,
  ⟨.bin .rem, (ch 1001), (.int .i64 14), (ch 1004)⟩,
  ⟨.bin .add, (ch 1004), (.int .i64 14), (ch 1005)⟩,
  ⟨.bin .rem, (ch 1005), (.int .i64 14), (.int .i64 13)⟩]
theorem Zw.i97 : Zw.d0.sub 8 [] (idl 8 Zw.d0.objs) (idA 2) (Zw.d0.st 8 []) = true := by kernel_rfl
theorem Zw.r97 : leafFin (Tryz.Es Tryz.m3 (syOf Zw.t97)) Tryz.f4 (fK (Tryz.Es Tryz.m3 (syOf Zw.t97)) 100000 100000 Zw.pS (Zw.d0.st 8 []) 0) = true := by kernel_rfl
noncomputable def Zw.t103 : List SE := ncL [⟨.bin .rem, (ch 1000), (.int .i64 12), (ch 1002)⟩,
  ⟨.bin .add, (ch 1002), (.int .i64 12), (ch 1003)⟩,
  ⟨.bin .rem, (ch 1003), (.int .i64 12), (.int .i64 7)⟩,
  ⟨.bin .rem, (ch 1001), (.int .i64 14), (ch 1004)⟩,
  ⟨.bin .add, (ch 1004), (.int .i64 14), (ch 1005)⟩,
  ⟨.bin .rem, (ch 1005), (.int .i64 14), (.int .i64 5)⟩]
theorem Zw.i103 : Zw.d0.sub 8 [] (idl 8 Zw.d0.objs) (idA 2) (Zw.d0.st 8 []) = true := by kernel_rfl
theorem Zw.r103 : leafFin (Tryz.Es Tryz.m3 (syOf Zw.t103)) Tryz.f4 (fK (Tryz.Es Tryz.m3 (syOf Zw.t103)) 100000 100000 Zw.pS (Zw.d0.st 8 []) 0) = true := by kernel_rfl
noncomputable def Zw.t109 : List SE := ncL [⟨.bin .rem, (ch 1000), (.int .i64 12), (ch 1002)⟩,
  ⟨.bin .add, (ch 1002), (.int .i64 12), (ch 1003)⟩,
  ⟨.bin .rem, (ch 1003), (.int .i64 12), (.int .i64 7)⟩,
  ⟨.bin .rem, (ch 1001), (.int .i64 14), (ch 1004)⟩,
  ⟨.bin .add, (ch 1004), (.int .i64 14), (ch 1005)⟩,
  ⟨.bin .rem, (ch 1005), (.int .i64 14), (.int .i64 11)⟩]
theorem Zw.i109 : Zw.d0.sub 8 [] (idl 8 Zw.d0.objs) (idA 2) (Zw.d0.st 8 []) = true := by kernel_rfl
theorem Zw.r109 : leafFin (Tryz.Es Tryz.m3 (syOf Zw.t109)) Tryz.f4 (fK (Tryz.Es Tryz.m3 (syOf Zw.t109)) 100000 100000 Zw.pS (Zw.d0.st 8 []) 0) = true := by kernel_rfl
noncomputable def Zw.t115 : List SE := ncL [⟨.bin .rem, (ch 1000), (.int .i64 12), (ch 1002)⟩,
  ⟨.bin .add, (ch 1002), (.int .i64 12), (ch 1003)⟩,
  ⟨.bin .rem, (ch 1003), (.int .i64 12), (.int .i64 8)⟩,
  ⟨.bin .rem, (ch 1001), (.int .i64 14), (ch 1004)⟩,
  ⟨.bin .add, (ch 1004), (.int .i64 14), (ch 1005)⟩,
  ⟨.bin .rem, (ch 1005), (.int .i64 14), (.int .i64 3)⟩]
theorem Zw.i115 : Zw.d0.sub 8 [] (idl 8 Zw.d0.objs) (idA 2) (Zw.d0.st 8 []) = true := by kernel_rfl
theorem Zw.r115 : leafFin (Tryz.Es Tryz.m3 (syOf Zw.t115)) Tryz.f4 (fK (Tryz.Es Tryz.m3 (syOf Zw.t115)) 100000 100000 Zw.pS (Zw.d0.st 8 []) 0) = true := by kernel_rfl
noncomputable def Zw.t121 : List SE := ncL [⟨.bin .rem, (ch 1000), (.int .i64 12), (ch 1002)⟩,
  ⟨.bin .add, (ch 1002), (.int .i64 12), (ch 1003)⟩,
  ⟨.bin .rem, (ch 1003), (.int .i64 12), (.int .i64 8)⟩,
  ⟨.bin .rem, (ch 1001), (.int .i64 14), (ch 1004)⟩,
  ⟨.bin .add, (ch 1004), (.int .i64 14), (ch 1005)⟩,
  ⟨.bin .rem, (ch 1005), (.int .i64 14), (.int .i64 9)⟩]
theorem Zw.i121 : Zw.d0.sub 8 [] (idl 8 Zw.d0.objs) (idA 2) (Zw.d0.st 8 []) = true := by kernel_rfl
theorem Zw.r121 : leafFin (Tryz.Es Tryz.m3 (syOf Zw.t121)) Tryz.f4 (fK (Tryz.Es Tryz.m3 (syOf Zw.t121)) 100000 100000 Zw.pS (Zw.d0.st 8 []) 0) = true := by kernel_rfl
noncomputable def Zw.t127 : List SE := ncL [⟨.bin .rem, (ch 1000), (.int .i64 12), (ch 1002)⟩,
  ⟨.bin .add, (ch 1002), (.int .i64 12), (ch 1003)⟩,
  ⟨.bin .rem, (ch 1003), (.int .i64 12), (.int .i64 9)⟩,
  ⟨.bin .rem, (ch 1001), (.int .i64 14), (ch 1004)⟩,
  ⟨.bin .add, (ch 1004), (.int .i64 14), (ch 1005)⟩,
  ⟨.bin .rem, (ch 1005), (.int .i64 14), (.int .i64 1)⟩]
theorem Zw.i127 : Zw.d0.sub 8 [] (idl 8 Zw.d0.objs) (idA 2) (Zw.d0.st 8 []) = true := by kernel_rfl
theorem Zw.r127 : leafFin (Tryz.Es Tryz.m3 (syOf Zw.t127)) Tryz.f4 (fK (Tryz.Es Tryz.m3 (syOf Zw.t127)) 100000 100000 Zw.pS (Zw.d0.st 8 []) 0) = true := by kernel_rfl
noncomputable def Zw.t133 : List SE := ncL [⟨.bin .rem, (ch 1000), (.int .i64 12), (ch 1002)⟩,
  ⟨.bin .add, (ch 1002), (.int .i64 12), (ch 1003)⟩,
  ⟨.bin .rem, (ch 1003), (.int .i64 12), (.int .i64 9)⟩,
  ⟨.bin .rem, (ch 1001), (.int .i64 14), (ch 1004)⟩,
  ⟨.bin .add, (ch 1004), (.int .i64 14), (ch 1005)⟩,
  ⟨.bin .rem, (ch 1005), (.int .i64 14), (.int .i64 7)⟩]
theorem Zw.i133 : Zw.d0.sub 8 [] (idl 8 Zw.d0.objs) (idA 2) (Zw.d0.st 8 []) = true := by kernel_rfl
theorem Zw.r133 : leafFin (Tryz.Es Tryz.m3 (syOf Zw.t133)) Tryz.f4 (fK (Tryz.Es Tryz.m3 (syOf Zw.t133)) 100000 100000 Zw.pS (Zw.d0.st 8 []) 0) = true := by kernel_rfl
noncomputable def Zw.t139 : List SE := ncL [⟨.bin .rem, (ch 1000), (.int .i64 12), (ch 1002)⟩,
  ⟨.bin .add, (ch 1002), (.int .i64 12), (ch 1003)⟩,
  ⟨.bin .rem, (ch 1003), (.int .i64 12), (.int .i64 9)⟩,
  ⟨.bin .rem, (ch 1001), (.int .i64 14), (ch 1004)⟩,
  ⟨.bin .add, (ch 1004), (.int .i64 14), (ch 1005)⟩,
  ⟨.bin .rem, (ch 1005), (.int .i64 14), (.int .i64 13)⟩]
theorem Zw.i139 : Zw.d0.sub 8 [] (idl 8 Zw.d0.objs) (idA 2) (Zw.d0.st 8 []) = true := by kernel_rfl
theorem Zw.r139 : leafFin (Tryz.Es Tryz.m3 (syOf Zw.t139)) Tryz.f4 (fK (Tryz.Es Tryz.m3 (syOf Zw.t139)) 100000 100000 Zw.pS (Zw.d0.st 8 []) 0) = true := by kernel_rfl
noncomputable def Zw.t145 : List SE := ncL [⟨.bin .rem, (ch 1000), (.int .i64 12), (ch 1002)⟩,
  ⟨.bin .add, (ch 1002), (.int .i64 12), (ch 1003)⟩,
  ⟨.bin .rem, (ch 1003), (.int .i64 12), (.int .i64 10)⟩,
  ⟨.bin .rem, (ch 1001), (.int .i64 14), (ch 1004)⟩,
  ⟨.bin .add, (ch 1004), (.int .i64 14), (ch 1005)⟩,
  ⟨.bin .rem, (ch 1005), (.int .i64 14), (.int .i64 5)⟩]
theorem Zw.i145 : Zw.d0.sub 8 [] (idl 8 Zw.d0.objs) (idA 2) (Zw.d0.st 8 []) = true := by kernel_rfl
theorem Zw.r145 : leafFin (Tryz.Es Tryz.m3 (syOf Zw.t145)) Tryz.f4 (fK (Tryz.Es Tryz.m3 (syOf Zw.t145)) 100000 100000 Zw.pS (Zw.d0.st 8 []) 0) = true := by kernel_rfl
noncomputable def Zw.t151 : List SE := ncL [⟨.bin .rem, (ch 1000), (.int .i64 12), (ch 1002)⟩,
  ⟨.bin .add, (ch 1002), (.int .i64 12), (ch 1003)⟩,
  ⟨.bin .rem, (ch 1003), (.int .i64 12), (.int .i64 10)⟩,
  ⟨.bin .rem, (ch 1001), (.int .i64 14), (ch 1004)⟩,
  ⟨.bin .add, (ch 1004), (.int .i64 14), (ch 1005)⟩,
  ⟨.bin .rem, (ch 1005), (.int .i64 14), (.int .i64 11)⟩]
theorem Zw.i151 : Zw.d0.sub 8 [] (idl 8 Zw.d0.objs) (idA 2) (Zw.d0.st 8 []) = true := by kernel_rfl
theorem Zw.r151 : leafFin (Tryz.Es Tryz.m3 (syOf Zw.t151)) Tryz.f4 (fK (Tryz.Es Tryz.m3 (syOf Zw.t151)) 100000 100000 Zw.pS (Zw.d0.st 8 []) 0) = true := by kernel_rfl
noncomputable def Zw.t157 : List SE := ncL [⟨.bin .rem, (ch 1000), (.int .i64 12), (ch 1002)⟩,
  ⟨.bin .add, (ch 1002), (.int .i64 12), (ch 1003)⟩,
  ⟨.bin .rem, (ch 1003), (.int .i64 12), (.int .i64 11)⟩,
  ⟨.bin .rem, (ch 1001), (.int .i64 14), (ch 1004)⟩,
  ⟨.bin .add, (ch 1004), (.int .i64 14), (ch 1005)⟩,
  ⟨.bin .rem, (ch 1005), (.int .i64 14), (.int .i64 3)⟩]
theorem Zw.i157 : Zw.d0.sub 8 [] (idl 8 Zw.d0.objs) (idA 2) (Zw.d0.st 8 []) = true := by kernel_rfl
theorem Zw.r157 : leafFin (Tryz.Es Tryz.m3 (syOf Zw.t157)) Tryz.f4 (fK (Tryz.Es Tryz.m3 (syOf Zw.t157)) 100000 100000 Zw.pS (Zw.d0.st 8 []) 0) = true := by kernel_rfl
noncomputable def Zw.t163 : List SE := ncL [⟨.bin .rem, (ch 1000), (.int .i64 12), (ch 1002)⟩,
  ⟨.bin .add, (ch 1002), (.int .i64 12), (ch 1003)⟩,
  ⟨.bin .rem, (ch 1003), (.int .i64 12), (.int .i64 11)⟩,
  ⟨.bin .rem, (ch 1001), (.int .i64 14), (ch 1004)⟩,
  ⟨.bin .add, (ch 1004), (.int .i64 14), (ch 1005)⟩,
  ⟨.bin .rem, (ch 1005), (.int .i64 14), (.int .i64 9)⟩]
theorem Zw.i163 : Zw.d0.sub 8 [] (idl 8 Zw.d0.objs) (idA 2) (Zw.d0.st 8 []) = true := by kernel_rfl
theorem Zw.r163 : leafFin (Tryz.Es Tryz.m3 (syOf Zw.t163)) Tryz.f4 (fK (Tryz.Es Tryz.m3 (syOf Zw.t163)) 100000 100000 Zw.pS (Zw.d0.st 8 []) 0) = true := by kernel_rfl
end
end Go.Proofs
