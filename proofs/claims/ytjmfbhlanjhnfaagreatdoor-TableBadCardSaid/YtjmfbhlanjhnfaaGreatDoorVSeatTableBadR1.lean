/- Pieces of the law's run, from node to node, answered by the executor. No conditions. -/
import Derived.Test.YtjmfbhlanjhnfaaGreatDoorVSeatTableBadNd
set_option linter.all false
namespace Go.Proofs
open Go Go.Vsx
set_option maxRecDepth 1000000
noncomputable section
noncomputable def Zw.t0 : List SE := ncL [⟨.bin .rem, (ch 1000), (.int .i64 6), (ch 1002)⟩,
  ⟨.bin .add, (ch 1002), (.int .i64 6), (ch 1003)⟩,
  ⟨.bin .rem, (ch 1003), (.int .i64 6), (.int .i64 0)⟩,
  ⟨.bin .lss, (ch 1001), (.int .i64 1), (.bool true)⟩]
theorem Zw.i0 : Zw.d0.sub 8 [] (idl 8 Zw.d0.objs) (idA 2) (Zw.d0.st 8 []) = true := by kernel_rfl
theorem Zw.r0 : leafFin (Tryz.Es Tryz.m4 (syOf Zw.t0)) Tryz.f3 (fK (Tryz.Es Tryz.m4 (syOf Zw.t0)) 100000 100000 Zw.pS (Zw.d0.st 8 []) 0) = true := by kernel_rfl
noncomputable def Zw.t4 : List SE := ncL [⟨.bin .rem, (ch 1000), (.int .i64 6), (ch 1002)⟩,
  ⟨.bin .add, (ch 1002), (.int .i64 6), (ch 1003)⟩,
  ⟨.bin .rem, (ch 1003), (.int .i64 6), (.int .i64 1)⟩,
  ⟨.bin .lss, (ch 1001), (.int .i64 0), (.bool false)⟩,
  ⟨.bin .geq, (ch 1001), (.int .i64 2), (.bool true)⟩,
  ⟨.bin .gtr, (ch 1001), (.int .i64 1), (.bool true)⟩]
theorem Zw.i4 : Zw.d0.sub 8 [] (idl 8 Zw.d0.objs) (idA 2) (Zw.d0.st 8 []) = true := by kernel_rfl
theorem Zw.r4 : leafFin (Tryz.Es Tryz.m4 (syOf Zw.t4)) Tryz.f3 (fK (Tryz.Es Tryz.m4 (syOf Zw.t4)) 100000 100000 Zw.pS (Zw.d0.st 8 []) 0) = true := by kernel_rfl
noncomputable def Zw.t8 : List SE := ncL [⟨.bin .rem, (ch 1000), (.int .i64 6), (ch 1002)⟩,
  ⟨.bin .add, (ch 1002), (.int .i64 6), (ch 1003)⟩,
  ⟨.bin .rem, (ch 1003), (.int .i64 6), (.int .i64 2)⟩,
  ⟨.bin .geq, (ch 1001), (.int .i64 0), (.bool true)⟩,
  ⟨.bin .lss, (ch 1001), (.int .i64 8), (.bool true)⟩,
  ⟨.bin .lss, (ch 1001), (.int .i64 0), (.bool false)⟩,
  ⟨.bin .geq, (ch 1001), (.int .i64 8), (.bool false)⟩,
  ⟨.bin .add, (.int .i64 0), (ch 1001), (ch 1004)⟩,
  ⟨.bin .rem, (ch 1004), (.int .i64 4), (ch 1005)⟩,
  ⟨.bin .geq, (ch 1005), (.int .i64 0), (.bool true)⟩,
  ⟨.bin .lss, (ch 1005), (.int .i64 4), (.bool true)⟩,
  ⟨.bin .geq, (ch 1004), (.int .i64 0), (.bool true)⟩,
  ⟨.bin .lss, (ch 1004), (.int .i64 24), (.bool true)⟩,
  ⟨.bin .neq, (ch 1005), (ch 1005), (.bool false)⟩,
  ⟨.bin .lss, (ch 1004), (ch 1004), (.bool false)⟩,
  ⟨.bin .eql, (ch 1005), (ch 1005), (.bool true)⟩,
  ⟨.bin .eql, (ch 1004), (ch 1004), (.bool true)⟩,
  ⟨.fix, (ch 1005), (.int .i64 0), (.int .i64 1)⟩,
  ⟨.fix, (ch 1004), (.int .i64 0), (.int .i64 1)⟩]
theorem Zw.i8 : Zw.d0.sub 8 [] (idl 8 Zw.d0.objs) (idA 2) (Zw.d0.st 8 []) = true := by kernel_rfl
theorem Zw.r8 : leafFin (Tryz.Es Tryz.m4 (syOf Zw.t8)) Tryz.f3 (fK (Tryz.Es Tryz.m4 (syOf Zw.t8)) 100000 100000 Zw.pS (Zw.d0.st 8 []) 0) = true := by kernel_rfl
noncomputable def Zw.t12 : List SE := ncL [⟨.bin .rem, (ch 1000), (.int .i64 6), (ch 1002)⟩,
  ⟨.bin .add, (ch 1002), (.int .i64 6), (ch 1003)⟩,
  ⟨.bin .rem, (ch 1003), (.int .i64 6), (.int .i64 2)⟩,
  ⟨.bin .geq, (ch 1001), (.int .i64 0), (.bool true)⟩,
  ⟨.bin .lss, (ch 1001), (.int .i64 8), (.bool true)⟩,
  ⟨.bin .lss, (ch 1001), (.int .i64 0), (.bool false)⟩,
  ⟨.bin .geq, (ch 1001), (.int .i64 8), (.bool false)⟩,
  ⟨.bin .add, (.int .i64 0), (ch 1001), (ch 1004)⟩,
  ⟨.bin .rem, (ch 1004), (.int .i64 4), (ch 1005)⟩,
  ⟨.bin .geq, (ch 1005), (.int .i64 0), (.bool true)⟩,
  ⟨.bin .lss, (ch 1005), (.int .i64 4), (.bool true)⟩,
  ⟨.bin .geq, (ch 1004), (.int .i64 0), (.bool true)⟩,
  ⟨.bin .lss, (ch 1004), (.int .i64 24), (.bool true)⟩,
  ⟨.bin .neq, (ch 1005), (ch 1005), (.bool false)⟩,
  ⟨.bin .lss, (ch 1004), (ch 1004), (.bool false)⟩,
  ⟨.bin .eql, (ch 1005), (ch 1005), (.bool true)⟩,
  ⟨.bin .eql, (ch 1004), (ch 1004), (.bool true)⟩,
  ⟨.fix, (ch 1005), (.int .i64 0), (.int .i64 3)⟩,
  ⟨.fix, (ch 1004), (.int .i64 0), (.int .i64 3)⟩]
theorem Zw.i12 : Zw.d0.sub 8 [] (idl 8 Zw.d0.objs) (idA 2) (Zw.d0.st 8 []) = true := by kernel_rfl
theorem Zw.r12 : leafFin (Tryz.Es Tryz.m4 (syOf Zw.t12)) Tryz.f3 (fK (Tryz.Es Tryz.m4 (syOf Zw.t12)) 100000 100000 Zw.pS (Zw.d0.st 8 []) 0) = true := by kernel_rfl
noncomputable def Zw.t16 : List SE := ncL [⟨.bin .rem, (ch 1000), (.int .i64 6), (ch 1002)⟩,
  ⟨.bin .add, (ch 1002), (.int .i64 6), (ch 1003)⟩,
  ⟨.bin .rem, (ch 1003), (.int .i64 6), (.int .i64 3)⟩,
  ⟨.bin .geq, (ch 1001), (.int .i64 0), (.bool true)⟩,
  ⟨.bin .lss, (ch 1001), (.int .i64 4), (.bool true)⟩,
  ⟨.fix, (ch 1001), (.int .i64 0), (.int .i64 0)⟩]
theorem Zw.i16 : Zw.d0.sub 8 [] (idl 8 Zw.d0.objs) (idA 2) (Zw.d0.st 8 []) = true := by kernel_rfl
theorem Zw.r16 : leafFin (Tryz.Es Tryz.m4 (syOf Zw.t16)) Tryz.f3 (fK (Tryz.Es Tryz.m4 (syOf Zw.t16)) 100000 100000 Zw.pS (Zw.d0.st 8 []) 0) = true := by kernel_rfl
noncomputable def Zw.t20 : List SE := ncL [⟨.bin .rem, (ch 1000), (.int .i64 6), (ch 1002)⟩,
  ⟨.bin .add, (ch 1002), (.int .i64 6), (ch 1003)⟩,
  ⟨.bin .rem, (ch 1003), (.int .i64 6), (.int .i64 3)⟩,
  ⟨.bin .geq, (ch 1001), (.int .i64 0), (.bool true)⟩,
  ⟨.bin .lss, (ch 1001), (.int .i64 4), (.bool false)⟩]
theorem Zw.i20 : Zw.d0.sub 8 [] (idl 8 Zw.d0.objs) (idA 2) (Zw.d0.st 8 []) = true := by kernel_rfl
theorem Zw.r20 : leafFin (Tryz.Es Tryz.m4 (syOf Zw.t20)) Tryz.f3 (fK (Tryz.Es Tryz.m4 (syOf Zw.t20)) 100000 100000 Zw.pS (Zw.d0.st 8 []) 0) = true := by kernel_rfl
noncomputable def Zw.t24 : List SE := ncL [⟨.bin .rem, (ch 1000), (.int .i64 6), (ch 1002)⟩,
  ⟨.bin .add, (ch 1002), (.int .i64 6), (ch 1003)⟩,
  ⟨.bin .rem, (ch 1003), (.int .i64 6), (.int .i64 4)⟩,
  ⟨.bin .lss, (ch 1001), (.int .i64 0), (.bool false)⟩,
  ⟨.bin .geq, (ch 1001), (.int .i64 3), (.bool false)⟩,
  ⟨.bin .mul, (.int .i64 8), (ch 1001), (ch 1004)⟩,
  ⟨.bin .add, (ch 1004), (.int .i64 1), (ch 1005)⟩,
  ⟨.bin .rem, (ch 1005), (.int .i64 4), (ch 1006)⟩,
  ⟨.bin .geq, (ch 1006), (.int .i64 0), (.bool true)⟩,
  ⟨.bin .lss, (ch 1006), (.int .i64 4), (.bool true)⟩,
  ⟨.bin .geq, (ch 1005), (.int .i64 0), (.bool true)⟩,
  ⟨.bin .lss, (ch 1005), (.int .i64 24), (.bool true)⟩,
  ⟨.bin .neq, (ch 1006), (ch 1006), (.bool false)⟩,
  ⟨.bin .lss, (ch 1005), (ch 1005), (.bool false)⟩,
  ⟨.bin .eql, (ch 1006), (ch 1006), (.bool true)⟩,
  ⟨.bin .eql, (ch 1005), (ch 1005), (.bool true)⟩,
  ⟨.bin .mul, (ch 1001), (.int .i64 8), (ch 1007)⟩,
  ⟨.bin .add, (ch 1007), (.int .i64 1), (ch 1008)⟩,
  ⟨.bin .rem, (ch 1008), (.int .i64 4), (ch 1009)⟩,
  ⟨.fix, (ch 1009), (.int .i64 0), (.int .i64 1)⟩,
  ⟨.fix, (ch 1008), (.int .i64 0), (.int .i64 1)⟩]
theorem Zw.i24 : Zw.d0.sub 8 [] (idl 8 Zw.d0.objs) (idA 2) (Zw.d0.st 8 []) = true := by kernel_rfl
theorem Zw.r24 : leafFin (Tryz.Es Tryz.m4 (syOf Zw.t24)) Tryz.f3 (fK (Tryz.Es Tryz.m4 (syOf Zw.t24)) 100000 100000 Zw.pS (Zw.d0.st 8 []) 0) = true := by kernel_rfl
end
end Go.Proofs
