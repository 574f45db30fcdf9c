/- Pieces of the law's run, from node to node, answered by the executor. No conditions. -/
import Derived.Test.YtjmfbhlanjhnfaaGreatDoorVSeatTableBadNd
set_option linter.all false
namespace Go.Proofs
open Go Go.Vsx
set_option maxRecDepth 1000000
noncomputable section
noncomputable def Zw.t3 : List SE := ncL [⟨.bin .rem, (ch 1000), (.int .i64 6), (ch 1002)⟩,
  ⟨.bin .add, (ch 1002), (.int .i64 6), (ch 1003)⟩,
  ⟨.bin .rem, (ch 1003), (.int .i64 6), (.int .i64 1)⟩,
  ⟨.bin .lss, (ch 1001), (.int .i64 0), (.bool true)⟩]
theorem Zw.i3 : Zw.d0.sub 8 [] (idl 8 Zw.d0.objs) (idA 2) (Zw.d0.st 8 []) = true := by kernel_rfl
theorem Zw.r3 : leafFin (Tryz.Es Tryz.m4 (syOf Zw.t3)) Tryz.f3 (fK (Tryz.Es Tryz.m4 (syOf Zw.t3)) 100000 100000 Zw.pS (Zw.d0.st 8 []) 0) = true := by kernel_rfl
noncomputable def Zw.t7 : List SE := ncL [⟨.bin .rem, (ch 1000), (.int .i64 6), (ch 1002)⟩,
  ⟨.bin .add, (ch 1002), (.int .i64 6), (ch 1003)⟩,
  ⟨.bin .rem, (ch 1003), (.int .i64 6), (.int .i64 2)⟩,
  ⟨.bin .geq, (ch 1001), (.int .i64 0), (.bool true)⟩,
  ⟨.bin .lss, (ch 1001), (.int .i64 8), (.bool true)⟩,
  ⟨.bin .lss, (ch 1001), (.int .i64 0), (.bool false)⟩,
  ⟨.bin .geq, (ch 1001), (.int .i64 8), (.bool false)⟩,
  ⟨.bin .add, (.int .i64 0), (ch 1001), (ch 1004)⟩,
  ⟨.bin .rem, (ch 1004), (.int .i64 4), (ch 1005)⟩,
  ⟨.bin .geq, (ch 1005), (.int .i64 0), (.bool true)⟩,
  ⟨.bin .lss, (ch 1005), (.int .i64 4), (.bool true)⟩,
  ⟨.bin .geq, (ch 1004), (.int .i64 0), (.bool true)⟩,
  ⟨.bin .lss, (ch 1004), (.int .i64 24), (.bool true)⟩,
  ⟨.bin .neq, (ch 1005), (ch 1005), (.bool false)⟩,
  ⟨.bin .lss, (ch 1004), (ch 1004), (.bool false)⟩,
  ⟨.bin .eql, (ch 1005), (ch 1005), (.bool true)⟩,
  ⟨.bin .eql, (ch 1004), (ch 1004), (.bool true)⟩,
  ⟨.fix, (ch 1005), (.int .i64 0), (.int .i64 0)⟩,
  ⟨.fix, (ch 1004), (.int .i64 0), (.int .i64 4)⟩]
theorem Zw.i7 : Zw.d0.sub 8 [] (idl 8 Zw.d0.objs) (idA 2) (Zw.d0.st 8 []) = true := by kernel_rfl
theorem Zw.r7 : leafFin (Tryz.Es Tryz.m4 (syOf Zw.t7)) Tryz.f3 (fK (Tryz.Es Tryz.m4 (syOf Zw.t7)) 100000 100000 Zw.pS (Zw.d0.st 8 []) 0) = true := by kernel_rfl
noncomputable def Zw.t11 : List SE := ncL [⟨.bin .rem, (ch 1000), (.int .i64 6), (ch 1002)⟩,
  ⟨.bin .add, (ch 1002), (.int .i64 6), (ch 1003)⟩,
  ⟨.bin .rem, (ch 1003), (.int .i64 6), (.int .i64 2)⟩,
  ⟨.bin .geq, (ch 1001), (.int .i64 0), (.bool true)⟩,
  ⟨.bin .lss, (ch 1001), (.int .i64 8), (.bool true)⟩,
  ⟨.bin .lss, (ch 1001), (.int .i64 0), (.bool false)⟩,
  ⟨.bin .geq, (ch 1001), (.int .i64 8), (.bool false)⟩,
  ⟨.bin .add, (.int .i64 0), (ch 1001), (ch 1004)⟩,
  ⟨.bin .rem, (ch 1004), (.int .i64 4), (ch 1005)⟩,
  ⟨.bin .geq, (ch 1005), (.int .i64 0), (.bool true)⟩,
  ⟨.bin .lss, (ch 1005), (.int .i64 4), (.bool true)⟩,
  ⟨.bin .geq, (ch 1004), (.int .i64 0), (.bool true)⟩,
  ⟨.bin .lss, (ch 1004), (.int .i64 24), (.bool true)⟩,
  ⟨.bin .neq, (ch 1005), (ch 1005), (.bool false)⟩,
  ⟨.bin .lss, (ch 1004), (ch 1004), (.bool false)⟩,
  ⟨.bin .eql, (ch 1005), (ch 1005), (.bool true)⟩,
  ⟨.bin .eql, (ch 1004), (ch 1004), (.bool true)⟩,
  ⟨.fix, (ch 1005), (.int .i64 0), (.int .i64 2)⟩,
  ⟨.fix, (ch 1004), (.int .i64 0), (.int .i64 6)⟩]
theorem Zw.i11 : Zw.d0.sub 8 [] (idl 8 Zw.d0.objs) (idA 2) (Zw.d0.st 8 []) = true := by kernel_rfl
theorem Zw.r11 : leafFin (Tryz.Es Tryz.m4 (syOf Zw.t11)) Tryz.f3 (fK (Tryz.Es Tryz.m4 (syOf Zw.t11)) 100000 100000 Zw.pS (Zw.d0.st 8 []) 0) = true := by kernel_rfl
noncomputable def Zw.t15 : List SE := ncL [⟨.bin .rem, (ch 1000), (.int .i64 6), (ch 1002)⟩,
  ⟨.bin .add, (ch 1002), (.int .i64 6), (ch 1003)⟩,
  ⟨.bin .rem, (ch 1003), (.int .i64 6), (.int .i64 2)⟩,
  ⟨.bin .geq, (ch 1001), (.int .i64 0), (.bool false)⟩]
theorem Zw.i15 : Zw.d0.sub 8 [] (idl 8 Zw.d0.objs) (idA 2) (Zw.d0.st 8 []) = true := by kernel_rfl
theorem Zw.r15 : leafFin (Tryz.Es Tryz.m4 (syOf Zw.t15)) Tryz.f3 (fK (Tryz.Es Tryz.m4 (syOf Zw.t15)) 100000 100000 Zw.pS (Zw.d0.st 8 []) 0) = true := by kernel_rfl
noncomputable def Zw.t19 : List SE := ncL [⟨.bin .rem, (ch 1000), (.int .i64 6), (ch 1002)⟩,
  ⟨.bin .add, (ch 1002), (.int .i64 6), (ch 1003)⟩,
  ⟨.bin .rem, (ch 1003), (.int .i64 6), (.int .i64 3)⟩,
  ⟨.bin .geq, (ch 1001), (.int .i64 0), (.bool true)⟩,
  ⟨.bin .lss, (ch 1001), (.int .i64 4), (.bool true)⟩,
  ⟨.fix, (ch 1001), (.int .i64 0), (.int .i64 3)⟩]
theorem Zw.i19 : Zw.d0.sub 8 [] (idl 8 Zw.d0.objs) (idA 2) (Zw.d0.st 8 []) = true := by kernel_rfl
theorem Zw.r19 : leafFin (Tryz.Es Tryz.m4 (syOf Zw.t19)) Tryz.f3 (fK (Tryz.Es Tryz.m4 (syOf Zw.t19)) 100000 100000 Zw.pS (Zw.d0.st 8 []) 0) = true := by kernel_rfl
noncomputable def Zw.t23 : List SE := ncL [⟨.bin .rem, (ch 1000), (.int .i64 6), (ch 1002)⟩,
  ⟨.bin .add, (ch 1002), (.int .i64 6), (ch 1003)⟩,
  ⟨.bin .rem, (ch 1003), (.int .i64 6), (.int .i64 4)⟩,
  ⟨.bin .lss, (ch 1001), (.int .i64 0), (.bool false)⟩,
  ⟨.bin .geq, (ch 1001), (.int .i64 3), (.bool true)⟩]
theorem Zw.i23 : Zw.d0.sub 8 [] (idl 8 Zw.d0.objs) (idA 2) (Zw.d0.st 8 []) = true := by kernel_rfl
theorem Zw.r23 : leafFin (Tryz.Es Tryz.m4 (syOf Zw.t23)) Tryz.f3 (fK (Tryz.Es Tryz.m4 (syOf Zw.t23)) 100000 100000 Zw.pS (Zw.d0.st 8 []) 0) = true := by kernel_rfl
noncomputable def Zw.t27 : List SE := ncL [⟨.bin .rem, (ch 1000), (.int .i64 6), (ch 1002)⟩,
  ⟨.bin .add, (ch 1002), (.int .i64 6), (ch 1003)⟩,
  ⟨.bin .rem, (ch 1003), (.int .i64 6), (.int .i64 5)⟩]
theorem Zw.i27 : Zw.d0.sub 8 [] (idl 8 Zw.d0.objs) (idA 2) (Zw.d0.st 8 []) = true := by kernel_rfl
theorem Zw.r27 : leafFin (Tryz.Es Tryz.m4 (syOf Zw.t27)) Tryz.f3 (fK (Tryz.Es Tryz.m4 (syOf Zw.t27)) 100000 100000 Zw.pS (Zw.d0.st 8 []) 0) = true := by kernel_rfl
end
end Go.Proofs
