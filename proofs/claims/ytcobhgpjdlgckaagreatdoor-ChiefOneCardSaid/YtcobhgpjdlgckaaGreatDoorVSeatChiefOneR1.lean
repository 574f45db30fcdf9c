/- Pieces of the law's run, from node to node, answered by the executor. No conditions. -/
import Derived.Test.YtcobhgpjdlgckaaGreatDoorVSeatChiefOneNd
set_option linter.all false
namespace Go.Proofs
open Go Go.Vsx
set_option maxRecDepth 1000000
noncomputable section
noncomputable def Tryz.ChiefOne.t0 : List SE := ncL [⟨.bin .rem, (ch 1000), (.int .i64 3), (ch 1003)⟩,
  ⟨.bin .add, (ch 1003), (.int .i64 3), (ch 1004)⟩,
  ⟨.bin .rem, (ch 1004), (.int .i64 3), (.int .i64 0)⟩,
  ⟨.bin .rem, (ch 1001), (.int .i64 99990), (ch 1005)⟩,
  ⟨.bin .add, (ch 1005), (.int .i64 99990), (ch 1006)⟩,
  ⟨.bin .rem, (ch 1006), (.int .i64 99990), (ch 1007)⟩,
  ⟨.bin .add, (.int .i64 1), (ch 1007), (ch 1008)⟩,
  ⟨.bin .rem, (ch 1002), (.int .i64 12), (ch 1009)⟩,
  ⟨.bin .add, (ch 1009), (.int .i64 12), (ch 1010)⟩,
  ⟨.bin .rem, (ch 1010), (.int .i64 12), (ch 1011)⟩,
  ⟨.bin .add, (.int .i64 1), (ch 1011), (ch 1012)⟩,
  ⟨.bin .lss, (ch 1008), (.int .i64 1), (.bool false)⟩,
  ⟨.bin .gtr, (ch 1008), (.int .i64 99999), (.bool false)⟩]
theorem Tryz.ChiefOne.i0 : Tryz.ChiefOne.d0.sub 8 [] (idl 8 Tryz.ChiefOne.d0.objs) (idA 3) (Tryz.ChiefOne.d0.st 8 []) = true := by kernel_rfl
theorem Tryz.ChiefOne.r0 : leafNext (fK (Tryz.Es Tryz.m4 (syOf Tryz.ChiefOne.t0)) 100000 100000 Tryz.ChiefOne.pS (Tryz.ChiefOne.d0.st 8 []) 0) 8 Tryz.ChiefOne.d1 [(12, 14), (13, 12), (14, 13)] [(ch 1008), (ch 1012)] = some Tryz.ChiefOne.p0 := by kernel_rfl
noncomputable def Tryz.ChiefOne.t1 : List SE := ncL [⟨.bin .rem, (ch 1000), (.int .i64 3), (ch 1003)⟩,
  ⟨.bin .add, (ch 1003), (.int .i64 3), (ch 1004)⟩,
  ⟨.bin .rem, (ch 1004), (.int .i64 3), (.int .i64 1)⟩,
  ⟨.bin .rem, (ch 1001), (.int .i64 99990), (ch 1005)⟩,
  ⟨.bin .add, (ch 1005), (.int .i64 99990), (ch 1006)⟩,
  ⟨.bin .rem, (ch 1006), (.int .i64 99990), (ch 1007)⟩,
  ⟨.bin .add, (.int .i64 1), (ch 1007), (ch 1008)⟩,
  ⟨.bin .rem, (ch 1002), (.int .i64 12), (ch 1009)⟩,
  ⟨.bin .add, (ch 1009), (.int .i64 12), (ch 1010)⟩,
  ⟨.bin .rem, (ch 1010), (.int .i64 12), (ch 1011)⟩,
  ⟨.bin .add, (.int .i64 1), (ch 1011), (ch 1012)⟩,
  ⟨.bin .lss, (ch 1008), (.int .i64 1), (.bool false)⟩,
  ⟨.bin .gtr, (ch 1008), (.int .i64 99999), (.bool false)⟩]
theorem Tryz.ChiefOne.i1 : Tryz.ChiefOne.d0.sub 8 [] (idl 8 Tryz.ChiefOne.d0.objs) (idA 3) (Tryz.ChiefOne.d0.st 8 []) = true := by kernel_rfl
theorem Tryz.ChiefOne.r1 : leafNext (fK (Tryz.Es Tryz.m4 (syOf Tryz.ChiefOne.t1)) 100000 100000 Tryz.ChiefOne.pS (Tryz.ChiefOne.d0.st 8 []) 0) 8 Tryz.ChiefOne.d2 [(12, 14), (13, 12), (14, 13)] [(ch 1008), (ch 1012)] = some Tryz.ChiefOne.p0 := by kernel_rfl
noncomputable def Tryz.ChiefOne.t2 : List SE := ncL [⟨.bin .rem, (ch 1000), (.int .i64 3), (ch 1003)⟩,
  ⟨.bin .add, (ch 1003), (.int .i64 3), (ch 1004)⟩,
  ⟨.bin .rem, (ch 1004), (.int .i64 3), (.int .i64 2)⟩,
  ⟨.bin .rem, (ch 1001), (.int .i64 99990), (ch 1005)⟩,
  ⟨.bin .add, (ch 1005), (.int .i64 99990), (ch 1006)⟩,
  ⟨.bin .rem, (ch 1006), (.int .i64 99990), (ch 1007)⟩,
  ⟨.bin .add, (.int .i64 1), (ch 1007), (ch 1008)⟩,
  ⟨.bin .rem, (ch 1002), (.int .i64 12), (ch 1009)⟩,
  ⟨.bin .add, (ch 1009), (.int .i64 12), (ch 1010)⟩,
  ⟨.bin .rem, (ch 1010), (.int .i64 12), (ch 1011)⟩,
  ⟨.bin .add, (.int .i64 1), (ch 1011), (ch 1012)⟩,
  ⟨.bin .lss, (ch 1008), (.int .i64 1), (.bool false)⟩,
  ⟨.bin .gtr, (ch 1008), (.int .i64 99999), (.bool false)⟩]
theorem Tryz.ChiefOne.i2 : Tryz.ChiefOne.d0.sub 8 [] (idl 8 Tryz.ChiefOne.d0.objs) (idA 3) (Tryz.ChiefOne.d0.st 8 []) = true := by kernel_rfl
theorem Tryz.ChiefOne.r2 : leafNext (fK (Tryz.Es Tryz.m4 (syOf Tryz.ChiefOne.t2)) 100000 100000 Tryz.ChiefOne.pS (Tryz.ChiefOne.d0.st 8 []) 0) 8 Tryz.ChiefOne.d3 [(12, 14), (13, 12), (14, 13)] [(ch 1008), (ch 1012)] = some Tryz.ChiefOne.p0 := by kernel_rfl
noncomputable def Tryz.ChiefOne.t3 : List SE := ncL [⟨.bin .lss, (.int .i64 0), (ch 1001), (.bool true)⟩,
  ⟨.bin .gtr, (ch 1000), (.int .i64 99999), (.bool false)⟩,
  ⟨.bin .add, (ch 1000), (.int .i64 1), (ch 1002)⟩,
  ⟨.bin .add, (ch 1000), (.int .i64 0), (ch 1003)⟩,
  ⟨.bin .gtr, (ch 1003), (.int .i64 99999), (.bool false)⟩,
  ⟨.bin .neq, (ch 1000), (ch 1003), (.bool false)⟩,
  ⟨.bin .gtr, (ch 1000), (.int .i64 0), (.bool true)⟩,
  ⟨.bin .eql, (ch 1000), (.int .i64 0), (.bool false)⟩]
theorem Tryz.ChiefOne.i3 : Tryz.ChiefOne.d1.sub 8 [] (idl 8 Tryz.ChiefOne.d1.objs) (idA 2) (Tryz.ChiefOne.d1.st 8 []) = true := by kernel_rfl
theorem Tryz.ChiefOne.r3 : leafNext (fK (Tryz.Es Tryz.m4 (syOf Tryz.ChiefOne.t3)) 100000 100000 Tryz.ChiefOne.p0 (Tryz.ChiefOne.d1.st 8 []) 3) 8 Tryz.ChiefOne.d4 [(12, 12), (13, 17), (14, 13), (15, 14)] [(ch 1000), (ch 1001), (ch 1002)] = some Tryz.ChiefOne.p0 := by kernel_rfl
noncomputable def Tryz.ChiefOne.t4 : List SE := ncL [⟨.bin .lss, (.int .i64 0), (ch 1001), (.bool true)⟩,
  ⟨.bin .gtr, (ch 1000), (.int .i64 99999), (.bool false)⟩,
  ⟨.bin .add, (ch 1000), (.int .i64 1), (ch 1002)⟩,
  ⟨.bin .add, (ch 1000), (.int .i64 0), (ch 1003)⟩,
  ⟨.bin .gtr, (ch 1003), (.int .i64 99999), (.bool false)⟩,
  ⟨.bin .neq, (ch 1000), (ch 1003), (.bool false)⟩,
  ⟨.bin .gtr, (ch 1000), (.int .i64 0), (.bool true)⟩,
  ⟨.bin .eql, (ch 1000), (.int .i64 0), (.bool false)⟩]
theorem Tryz.ChiefOne.i4 : Tryz.ChiefOne.d2.sub 8 [] (idl 8 Tryz.ChiefOne.d2.objs) (idA 2) (Tryz.ChiefOne.d2.st 8 []) = true := by kernel_rfl
theorem Tryz.ChiefOne.r4 : leafNext (fK (Tryz.Es Tryz.m4 (syOf Tryz.ChiefOne.t4)) 100000 100000 Tryz.ChiefOne.p0 (Tryz.ChiefOne.d2.st 8 []) 4) 8 Tryz.ChiefOne.d5 [(12, 12), (13, 17), (14, 13), (15, 14)] [(ch 1000), (ch 1001), (ch 1002)] = some Tryz.ChiefOne.p0 := by kernel_rfl
noncomputable def Tryz.ChiefOne.t5 : List SE := ncL [⟨.bin .lss, (.int .i64 0), (ch 1001), (.bool true)⟩,
  ⟨.bin .gtr, (ch 1000), (.int .i64 99999), (.bool false)⟩,
  ⟨.bin .add, (ch 1000), (.int .i64 1), (ch 1002)⟩,
  ⟨.bin .add, (ch 1000), (.int .i64 0), (ch 1003)⟩,
  ⟨.bin .gtr, (ch 1003), (.int .i64 99999), (.bool false)⟩,
  ⟨.bin .neq, (ch 1000), (ch 1003), (.bool false)⟩,
  ⟨.bin .gtr, (ch 1000), (.int .i64 0), (.bool true)⟩,
  ⟨.bin .eql, (ch 1000), (.int .i64 0), (.bool false)⟩]
theorem Tryz.ChiefOne.i5 : Tryz.ChiefOne.d3.sub 8 [] (idl 8 Tryz.ChiefOne.d3.objs) (idA 2) (Tryz.ChiefOne.d3.st 8 []) = true := by kernel_rfl
theorem Tryz.ChiefOne.r5 : leafNext (fK (Tryz.Es Tryz.m4 (syOf Tryz.ChiefOne.t5)) 100000 100000 Tryz.ChiefOne.p0 (Tryz.ChiefOne.d3.st 8 []) 5) 8 Tryz.ChiefOne.d6 [(12, 12), (13, 17), (14, 13), (15, 14)] [(ch 1000), (ch 1001), (ch 1002)] = some Tryz.ChiefOne.p0 := by kernel_rfl
noncomputable def Tryz.ChiefOne.t6 : List SE := ncL [⟨.bin .lss, (.int .i64 1), (ch 1001), (.bool true)⟩,
  ⟨.bin .gtr, (ch 1002), (.int .i64 99999), (.bool false)⟩,
  ⟨.bin .add, (ch 1002), (.int .i64 1), (ch 1003)⟩,
  ⟨.bin .add, (ch 1000), (.int .i64 1), (ch 1004)⟩,
  ⟨.bin .gtr, (ch 1004), (.int .i64 99999), (.bool false)⟩,
  ⟨.bin .neq, (ch 1002), (ch 1004), (.bool false)⟩,
  ⟨.bin .gtr, (ch 1002), (.int .i64 0), (.bool true)⟩,
  ⟨.bin .eql, (ch 1002), (.int .i64 0), (.bool false)⟩]
theorem Tryz.ChiefOne.i6 : Tryz.ChiefOne.d4.sub 8 [] (idl 8 Tryz.ChiefOne.d4.objs) (idA 3) (Tryz.ChiefOne.d4.st 8 []) = true := by kernel_rfl
theorem Tryz.ChiefOne.r6 : leafNext (fK (Tryz.Es Tryz.m4 (syOf Tryz.ChiefOne.t6)) 100000 100000 Tryz.ChiefOne.p0 (Tryz.ChiefOne.d4.st 8 []) 3) 8 Tryz.ChiefOne.d7 [(12, 12), (13, 18), (14, 14), (15, 15)] [(ch 1000), (ch 1001), (ch 1003)] = some Tryz.ChiefOne.p0 := by kernel_rfl
noncomputable def Tryz.ChiefOne.t7 : List SE := ncL [⟨.bin .lss, (.int .i64 1), (ch 1001), (.bool false)⟩]
theorem Tryz.ChiefOne.i7 : Tryz.ChiefOne.d4.sub 8 [] (idl 8 Tryz.ChiefOne.d4.objs) (idA 3) (Tryz.ChiefOne.d4.st 8 []) = true := by kernel_rfl
theorem Tryz.ChiefOne.r7 : leafFin (Tryz.Es Tryz.m4 (syOf Tryz.ChiefOne.t7)) Tryz.f3 (fK (Tryz.Es Tryz.m4 (syOf Tryz.ChiefOne.t7)) 100000 100000 Tryz.ChiefOne.p0 (Tryz.ChiefOne.d4.st 8 []) 1) = true := by kernel_rfl
noncomputable def Tryz.ChiefOne.t8 : List SE := ncL [⟨.bin .lss, (.int .i64 1), (ch 1001), (.bool true)⟩,
  ⟨.bin .gtr, (ch 1002), (.int .i64 99999), (.bool false)⟩,
  ⟨.bin .add, (ch 1002), (.int .i64 1), (ch 1003)⟩,
  ⟨.bin .add, (ch 1000), (.int .i64 1), (ch 1004)⟩,
  ⟨.bin .gtr, (ch 1004), (.int .i64 99999), (.bool false)⟩,
  ⟨.bin .neq, (ch 1002), (ch 1004), (.bool false)⟩,
  ⟨.bin .gtr, (ch 1002), (.int .i64 0), (.bool true)⟩,
  ⟨.bin .eql, (ch 1002), (.int .i64 0), (.bool false)⟩]
theorem Tryz.ChiefOne.i8 : Tryz.ChiefOne.d5.sub 8 [] (idl 8 Tryz.ChiefOne.d5.objs) (idA 3) (Tryz.ChiefOne.d5.st 8 []) = true := by kernel_rfl
theorem Tryz.ChiefOne.r8 : leafNext (fK (Tryz.Es Tryz.m4 (syOf Tryz.ChiefOne.t8)) 100000 100000 Tryz.ChiefOne.p0 (Tryz.ChiefOne.d5.st 8 []) 4) 8 Tryz.ChiefOne.d8 [(12, 12), (13, 18), (14, 14), (15, 15)] [(ch 1000), (ch 1001), (ch 1003)] = some Tryz.ChiefOne.p0 := by kernel_rfl
noncomputable def Tryz.ChiefOne.t9 : List SE := ncL [⟨.bin .lss, (.int .i64 1), (ch 1001), (.bool false)⟩]
theorem Tryz.ChiefOne.i9 : Tryz.ChiefOne.d5.sub 8 [] (idl 8 Tryz.ChiefOne.d5.objs) (idA 3) (Tryz.ChiefOne.d5.st 8 []) = true := by kernel_rfl
theorem Tryz.ChiefOne.r9 : leafFin (Tryz.Es Tryz.m4 (syOf Tryz.ChiefOne.t9)) Tryz.f3 (fK (Tryz.Es Tryz.m4 (syOf Tryz.ChiefOne.t9)) 100000 100000 Tryz.ChiefOne.p0 (Tryz.ChiefOne.d5.st 8 []) 1) = true := by kernel_rfl
noncomputable def Tryz.ChiefOne.t10 : List SE := ncL [⟨.bin .lss, (.int .i64 1), (ch 1001), (.bool true)⟩,
  ⟨.bin .gtr, (ch 1002), (.int .i64 99999), (.bool false)⟩,
  ⟨.bin .add, (ch 1002), (.int .i64 1), (ch 1003)⟩,
  ⟨.bin .add, (ch 1000), (.int .i64 1), (ch 1004)⟩,
  ⟨.bin .gtr, (ch 1004), (.int .i64 99999), (.bool false)⟩,
  ⟨.bin .neq, (ch 1002), (ch 1004), (.bool false)⟩,
  ⟨.bin .gtr, (ch 1002), (.int .i64 0), (.bool true)⟩,
  ⟨.bin .eql, (ch 1002), (.int .i64 0), (.bool false)⟩]
theorem Tryz.ChiefOne.i10 : Tryz.ChiefOne.d6.sub 8 [] (idl 8 Tryz.ChiefOne.d6.objs) (idA 3) (Tryz.ChiefOne.d6.st 8 []) = true := by kernel_rfl
theorem Tryz.ChiefOne.r10 : leafNext (fK (Tryz.Es Tryz.m4 (syOf Tryz.ChiefOne.t10)) 100000 100000 Tryz.ChiefOne.p0 (Tryz.ChiefOne.d6.st 8 []) 5) 8 Tryz.ChiefOne.d9 [(12, 12), (13, 18), (14, 14), (15, 15)] [(ch 1000), (ch 1001), (ch 1003)] = some Tryz.ChiefOne.p0 := by kernel_rfl
noncomputable def Tryz.ChiefOne.t11 : List SE := ncL [⟨.bin .lss, (.int .i64 1), (ch 1001), (.bool false)⟩]
theorem Tryz.ChiefOne.i11 : Tryz.ChiefOne.d6.sub 8 [] (idl 8 Tryz.ChiefOne.d6.objs) (idA 3) (Tryz.ChiefOne.d6.st 8 []) = true := by kernel_rfl
theorem Tryz.ChiefOne.r11 : leafFin (Tryz.Es Tryz.m4 (syOf Tryz.ChiefOne.t11)) Tryz.f3 (fK (Tryz.Es Tryz.m4 (syOf Tryz.ChiefOne.t11)) 100000 100000 Tryz.ChiefOne.p0 (Tryz.ChiefOne.d6.st 8 []) 1) = true := by kernel_rfl
noncomputable def Tryz.ChiefOne.t12 : List SE := ncL [⟨.bin .lss, (.int .i64 2), (ch 1001), (.bool true)⟩,
  ⟨.bin .gtr, (ch 1002), (.int .i64 99999), (.bool false)⟩,
  ⟨.bin .add, (ch 1002), (.int .i64 1), (ch 1003)⟩,
  ⟨.bin .add, (ch 1000), (.int .i64 2), (ch 1004)⟩,
  ⟨.bin .gtr, (ch 1004), (.int .i64 99999), (.bool false)⟩,
  ⟨.bin .neq, (ch 1002), (ch 1004), (.bool false)⟩,
  ⟨.bin .gtr, (ch 1002), (.int .i64 0), (.bool true)⟩,
  ⟨.bin .eql, (ch 1002), (.int .i64 0), (.bool false)⟩]
theorem Tryz.ChiefOne.i12 : Tryz.ChiefOne.d7.sub 8 [] (idl 8 Tryz.ChiefOne.d7.objs) (idA 3) (Tryz.ChiefOne.d7.st 8 []) = true := by kernel_rfl
theorem Tryz.ChiefOne.r12 : leafNext (fK (Tryz.Es Tryz.m4 (syOf Tryz.ChiefOne.t12)) 100000 100000 Tryz.ChiefOne.p0 (Tryz.ChiefOne.d7.st 8 []) 3) 8 Tryz.ChiefOne.d10 [(12, 12), (13, 18), (14, 14), (15, 15)] [(ch 1000), (ch 1001), (ch 1003)] = some Tryz.ChiefOne.p0 := by kernel_rfl
noncomputable def Tryz.ChiefOne.t13 : List SE := ncL [⟨.bin .lss, (.int .i64 2), (ch 1001), (.bool false)⟩]
theorem Tryz.ChiefOne.i13 : Tryz.ChiefOne.d7.sub 8 [] (idl 8 Tryz.ChiefOne.d7.objs) (idA 3) (Tryz.ChiefOne.d7.st 8 []) = true := by kernel_rfl
theorem Tryz.ChiefOne.r13 : leafFin (Tryz.Es Tryz.m4 (syOf Tryz.ChiefOne.t13)) Tryz.f3 (fK (Tryz.Es Tryz.m4 (syOf Tryz.ChiefOne.t13)) 100000 100000 Tryz.ChiefOne.p0 (Tryz.ChiefOne.d7.st 8 []) 1) = true := by kernel_rfl
noncomputable def Tryz.ChiefOne.t14 : List SE := ncL [⟨.bin .lss, (.int .i64 2), (ch 1001), (.bool true)⟩,
  ⟨.bin .gtr, (ch 1002), (.int .i64 99999), (.bool false)⟩,
  ⟨.bin .add, (ch 1002), (.int .i64 1), (ch 1003)⟩,
  ⟨.bin .add, (ch 1000), (.int .i64 2), (ch 1004)⟩,
  ⟨.bin .gtr, (ch 1004), (.int .i64 99999), (.bool false)⟩,
  ⟨.bin .neq, (ch 1002), (ch 1004), (.bool false)⟩,
  ⟨.bin .gtr, (ch 1002), (.int .i64 0), (.bool true)⟩,
  ⟨.bin .eql, (ch 1002), (.int .i64 0), (.bool false)⟩]
theorem Tryz.ChiefOne.i14 : Tryz.ChiefOne.d8.sub 8 [] (idl 8 Tryz.ChiefOne.d8.objs) (idA 3) (Tryz.ChiefOne.d8.st 8 []) = true := by kernel_rfl
theorem Tryz.ChiefOne.r14 : leafNext (fK (Tryz.Es Tryz.m4 (syOf Tryz.ChiefOne.t14)) 100000 100000 Tryz.ChiefOne.p0 (Tryz.ChiefOne.d8.st 8 []) 4) 8 Tryz.ChiefOne.d11 [(12, 12), (13, 18), (14, 14), (15, 15)] [(ch 1000), (ch 1001), (ch 1003)] = some Tryz.ChiefOne.p0 := by kernel_rfl
noncomputable def Tryz.ChiefOne.t15 : List SE := ncL [⟨.bin .lss, (.int .i64 2), (ch 1001), (.bool false)⟩]
theorem Tryz.ChiefOne.i15 : Tryz.ChiefOne.d8.sub 8 [] (idl 8 Tryz.ChiefOne.d8.objs) (idA 3) (Tryz.ChiefOne.d8.st 8 []) = true := by kernel_rfl
theorem Tryz.ChiefOne.r15 : leafFin (Tryz.Es Tryz.m4 (syOf Tryz.ChiefOne.t15)) Tryz.f3 (fK (Tryz.Es Tryz.m4 (syOf Tryz.ChiefOne.t15)) 100000 100000 Tryz.ChiefOne.p0 (Tryz.ChiefOne.d8.st 8 []) 1) = true := by kernel_rfl
noncomputable def Tryz.ChiefOne.t16 : List SE := ncL [⟨.bin .lss, (.int .i64 2), (ch 1001), (.bool true)⟩,
  ⟨.bin .gtr, (ch 1002), (.int .i64 99999), (.bool false)⟩,
  ⟨.bin .add, (ch 1002), (.int .i64 1), (ch 1003)⟩,
  ⟨.bin .add, (ch 1000), (.int .i64 2), (ch 1004)⟩,
  ⟨.bin .gtr, (ch 1004), (.int .i64 99999), (.bool false)⟩,
  ⟨.bin .neq, (ch 1002), (ch 1004), (.bool false)⟩,
  ⟨.bin .gtr, (ch 1002), (.int .i64 0), (.bool true)⟩,
  ⟨.bin .eql, (ch 1002), (.int .i64 0), (.bool false)⟩]
theorem Tryz.ChiefOne.i16 : Tryz.ChiefOne.d9.sub 8 [] (idl 8 Tryz.ChiefOne.d9.objs) (idA 3) (Tryz.ChiefOne.d9.st 8 []) = true := by kernel_rfl
theorem Tryz.ChiefOne.r16 : leafNext (fK (Tryz.Es Tryz.m4 (syOf Tryz.ChiefOne.t16)) 100000 100000 Tryz.ChiefOne.p0 (Tryz.ChiefOne.d9.st 8 []) 5) 8 Tryz.ChiefOne.d12 [(12, 12), (13, 18), (14, 14), (15, 15)] [(ch 1000), (ch 1001), (ch 1003)] = some Tryz.ChiefOne.p0 := by kernel_rfl
noncomputable def Tryz.ChiefOne.t17 : List SE := ncL [⟨.bin .lss, (.int .i64 2), (ch 1001), (.bool false)⟩]
theorem Tryz.ChiefOne.i17 : Tryz.ChiefOne.d9.sub 8 [] (idl 8 Tryz.ChiefOne.d9.objs) (idA 3) (Tryz.ChiefOne.d9.st 8 []) = true := by kernel_rfl
theorem Tryz.ChiefOne.r17 : leafFin (Tryz.Es Tryz.m4 (syOf Tryz.ChiefOne.t17)) Tryz.f3 (fK (Tryz.Es Tryz.m4 (syOf Tryz.ChiefOne.t17)) 100000 100000 Tryz.ChiefOne.p0 (Tryz.ChiefOne.d9.st 8 []) 1) = true := by kernel_rfl
noncomputable def Tryz.ChiefOne.t18 : List SE := ncL [⟨.bin .lss, (.int .i64 3), (ch 1001), (.bool true)⟩,
  ⟨.bin .gtr, (ch 1002), (.int .i64 99999), (.bool false)⟩,
  ⟨.bin .add, (ch 1002), (.int .i64 1), (ch 1003)⟩,
  ⟨.bin .add, (ch 1000), (.int .i64 3), (ch 1004)⟩,
  ⟨.bin .gtr, (ch 1004), (.int .i64 99999), (.bool false)⟩,
  ⟨.bin .neq, (ch 1002), (ch 1004), (.bool false)⟩,
  ⟨.bin .gtr, (ch 1002), (.int .i64 0), (.bool true)⟩,
  ⟨.bin .eql, (ch 1002), (.int .i64 0), (.bool false)⟩]
theorem Tryz.ChiefOne.i18 : Tryz.ChiefOne.d10.sub 8 [] (idl 8 Tryz.ChiefOne.d10.objs) (idA 3) (Tryz.ChiefOne.d10.st 8 []) = true := by kernel_rfl
theorem Tryz.ChiefOne.r18 : leafNext (fK (Tryz.Es Tryz.m4 (syOf Tryz.ChiefOne.t18)) 100000 100000 Tryz.ChiefOne.p0 (Tryz.ChiefOne.d10.st 8 []) 3) 8 Tryz.ChiefOne.d13 [(12, 12), (13, 18), (14, 14), (15, 15)] [(ch 1000), (ch 1001), (ch 1003)] = some Tryz.ChiefOne.p0 := by kernel_rfl
noncomputable def Tryz.ChiefOne.t19 : List SE := ncL [⟨.bin .lss, (.int .i64 3), (ch 1001), (.bool false)⟩]
theorem Tryz.ChiefOne.i19 : Tryz.ChiefOne.d10.sub 8 [] (idl 8 Tryz.ChiefOne.d10.objs) (idA 3) (Tryz.ChiefOne.d10.st 8 []) = true := by kernel_rfl
theorem Tryz.ChiefOne.r19 : leafFin (Tryz.Es Tryz.m4 (syOf Tryz.ChiefOne.t19)) Tryz.f3 (fK (Tryz.Es Tryz.m4 (syOf Tryz.ChiefOne.t19)) 100000 100000 Tryz.ChiefOne.p0 (Tryz.ChiefOne.d10.st 8 []) 1) = true := by kernel_rfl
noncomputable def Tryz.ChiefOne.t20 : List SE := ncL [⟨.bin .lss, (.int .i64 3), (ch 1001), (.bool true)⟩,
  ⟨.bin .gtr, (ch 1002), (.int .i64 99999), (.bool false)⟩,
  ⟨.bin .add, (ch 1002), (.int .i64 1), (ch 1003)⟩,
  ⟨.bin .add, (ch 1000), (.int .i64 3), (ch 1004)⟩,
  ⟨.bin .gtr, (ch 1004), (.int .i64 99999), (.bool false)⟩,
  ⟨.bin .neq, (ch 1002), (ch 1004), (.bool false)⟩,
  ⟨.bin .gtr, (ch 1002), (.int .i64 0), (.bool true)⟩,
  ⟨.bin .eql, (ch 1002), (.int .i64 0), (.bool false)⟩]
theorem Tryz.ChiefOne.i20 : Tryz.ChiefOne.d11.sub 8 [] (idl 8 Tryz.ChiefOne.d11.objs) (idA 3) (Tryz.ChiefOne.d11.st 8 []) = true := by kernel_rfl
theorem Tryz.ChiefOne.r20 : leafNext (fK (Tryz.Es Tryz.m4 (syOf Tryz.ChiefOne.t20)) 100000 100000 Tryz.ChiefOne.p0 (Tryz.ChiefOne.d11.st 8 []) 4) 8 Tryz.ChiefOne.d14 [(12, 12), (13, 18), (14, 14), (15, 15)] [(ch 1000), (ch 1001), (ch 1003)] = some Tryz.ChiefOne.p0 := by kernel_rfl
noncomputable def Tryz.ChiefOne.t21 : List SE := ncL [⟨.bin .lss, (.int .i64 3), (ch 1001), (.bool false)⟩]
theorem Tryz.ChiefOne.i21 : Tryz.ChiefOne.d11.sub 8 [] (idl 8 Tryz.ChiefOne.d11.objs) (idA 3) (Tryz.ChiefOne.d11.st 8 []) = true := by kernel_rfl
theorem Tryz.ChiefOne.r21 : leafFin (Tryz.Es Tryz.m4 (syOf Tryz.ChiefOne.t21)) Tryz.f3 (fK (Tryz.Es Tryz.m4 (syOf Tryz.ChiefOne.t21)) 100000 100000 Tryz.ChiefOne.p0 (Tryz.ChiefOne.d11.st 8 []) 1) = true := by kernel_rfl
noncomputable def Tryz.ChiefOne.t22 : List SE := ncL [⟨.bin .lss, (.int .i64 3), (ch 1001), (.bool true)⟩,
  ⟨.bin .gtr, (ch 1002), (.int .i64 99999), (.bool false)⟩,
  ⟨.bin .add, (ch 1002), (.int .i64 1), (ch 1003)⟩,
  ⟨.bin .add, (ch 1000), (.int .i64 3), (ch 1004)⟩,
  ⟨.bin .gtr, (ch 1004), (.int .i64 99999), (.bool false)⟩,
  ⟨.bin .neq, (ch 1002), (ch 1004), (.bool false)⟩,
  ⟨.bin .gtr, (ch 1002), (.int .i64 0), (.bool true)⟩,
  ⟨.bin .eql, (ch 1002), (.int .i64 0), (.bool false)⟩]
theorem Tryz.ChiefOne.i22 : Tryz.ChiefOne.d12.sub 8 [] (idl 8 Tryz.ChiefOne.d12.objs) (idA 3) (Tryz.ChiefOne.d12.st 8 []) = true := by kernel_rfl
theorem Tryz.ChiefOne.r22 : leafNext (fK (Tryz.Es Tryz.m4 (syOf Tryz.ChiefOne.t22)) 100000 100000 Tryz.ChiefOne.p0 (Tryz.ChiefOne.d12.st 8 []) 5) 8 Tryz.ChiefOne.d15 [(12, 12), (13, 18), (14, 14), (15, 15)] [(ch 1000), (ch 1001), (ch 1003)] = some Tryz.ChiefOne.p0 := by kernel_rfl
noncomputable def Tryz.ChiefOne.t23 : List SE := ncL [⟨.bin .lss, (.int .i64 3), (ch 1001), (.bool false)⟩]
theorem Tryz.ChiefOne.i23 : Tryz.ChiefOne.d12.sub 8 [] (idl 8 Tryz.ChiefOne.d12.objs) (idA 3) (Tryz.ChiefOne.d12.st 8 []) = true := by kernel_rfl
theorem Tryz.ChiefOne.r23 : leafFin (Tryz.Es Tryz.m4 (syOf Tryz.ChiefOne.t23)) Tryz.f3 (fK (Tryz.Es Tryz.m4 (syOf Tryz.ChiefOne.t23)) 100000 100000 Tryz.ChiefOne.p0 (Tryz.ChiefOne.d12.st 8 []) 1) = true := by kernel_rfl
noncomputable def Tryz.ChiefOne.t24 : List SE := ncL [⟨.bin .lss, (.int .i64 4), (ch 1001), (.bool true)⟩,
  ⟨.bin .gtr, (ch 1002), (.int .i64 99999), (.bool false)⟩,
  ⟨.bin .add, (ch 1002), (.int .i64 1), (ch 1003)⟩,
  ⟨.bin .add, (ch 1000), (.int .i64 4), (ch 1004)⟩,
  ⟨.bin .gtr, (ch 1004), (.int .i64 99999), (.bool false)⟩,
  ⟨.bin .neq, (ch 1002), (ch 1004), (.bool false)⟩,
  ⟨.bin .gtr, (ch 1002), (.int .i64 0), (.bool true)⟩,
  ⟨.bin .eql, (ch 1002), (.int .i64 0), (.bool false)⟩]
theorem Tryz.ChiefOne.i24 : Tryz.ChiefOne.d13.sub 8 [] (idl 8 Tryz.ChiefOne.d13.objs) (idA 3) (Tryz.ChiefOne.d13.st 8 []) = true := by kernel_rfl
theorem Tryz.ChiefOne.r24 : leafNext (fK (Tryz.Es Tryz.m4 (syOf Tryz.ChiefOne.t24)) 100000 100000 Tryz.ChiefOne.p0 (Tryz.ChiefOne.d13.st 8 []) 3) 8 Tryz.ChiefOne.d16 [(12, 12), (13, 18), (14, 14), (15, 15)] [(ch 1000), (ch 1001), (ch 1003)] = some Tryz.ChiefOne.p0 := by kernel_rfl
noncomputable def Tryz.ChiefOne.t25 : List SE := ncL [⟨.bin .lss, (.int .i64 4), (ch 1001), (.bool false)⟩]
theorem Tryz.ChiefOne.i25 : Tryz.ChiefOne.d13.sub 8 [] (idl 8 Tryz.ChiefOne.d13.objs) (idA 3) (Tryz.ChiefOne.d13.st 8 []) = true := by kernel_rfl
theorem Tryz.ChiefOne.r25 : leafFin (Tryz.Es Tryz.m4 (syOf Tryz.ChiefOne.t25)) Tryz.f3 (fK (Tryz.Es Tryz.m4 (syOf Tryz.ChiefOne.t25)) 100000 100000 Tryz.ChiefOne.p0 (Tryz.ChiefOne.d13.st 8 []) 1) = true := by kernel_rfl
noncomputable def Tryz.ChiefOne.t26 : List SE := ncL [⟨.bin .lss, (.int .i64 4), (ch 1001), (.bool true)⟩,
  ⟨.bin .gtr, (ch 1002), (.int .i64 99999), (.bool false)⟩,
  ⟨.bin .add, (ch 1002), (.int .i64 1), (ch 1003)⟩,
  ⟨.bin .add, (ch 1000), (.int .i64 4), (ch 1004)⟩,
  ⟨.bin .gtr, (ch 1004), (.int .i64 99999), (.bool false)⟩,
  ⟨.bin .neq, (ch 1002), (ch 1004), (.bool false)⟩,
  ⟨.bin .gtr, (ch 1002), (.int .i64 0), (.bool true)⟩,
  ⟨.bin .eql, (ch 1002), (.int .i64 0), (.bool false)⟩]
theorem Tryz.ChiefOne.i26 : Tryz.ChiefOne.d14.sub 8 [] (idl 8 Tryz.ChiefOne.d14.objs) (idA 3) (Tryz.ChiefOne.d14.st 8 []) = true := by kernel_rfl
theorem Tryz.ChiefOne.r26 : leafNext (fK (Tryz.Es Tryz.m4 (syOf Tryz.ChiefOne.t26)) 100000 100000 Tryz.ChiefOne.p0 (Tryz.ChiefOne.d14.st 8 []) 4) 8 Tryz.ChiefOne.d17 [(12, 12), (13, 18), (14, 14), (15, 15)] [(ch 1000), (ch 1001), (ch 1003)] = some Tryz.ChiefOne.p0 := by kernel_rfl
noncomputable def Tryz.ChiefOne.t27 : List SE := ncL [⟨.bin .lss, (.int .i64 4), (ch 1001), (.bool false)⟩]
theorem Tryz.ChiefOne.i27 : Tryz.ChiefOne.d14.sub 8 [] (idl 8 Tryz.ChiefOne.d14.objs) (idA 3) (Tryz.ChiefOne.d14.st 8 []) = true := by kernel_rfl
theorem Tryz.ChiefOne.r27 : leafFin (Tryz.Es Tryz.m4 (syOf Tryz.ChiefOne.t27)) Tryz.f3 (fK (Tryz.Es Tryz.m4 (syOf Tryz.ChiefOne.t27)) 100000 100000 Tryz.ChiefOne.p0 (Tryz.ChiefOne.d14.st 8 []) 1) = true := by kernel_rfl
noncomputable def Tryz.ChiefOne.t28 : List SE := ncL [⟨.bin .lss, (.int .i64 4), (ch 1001), (.bool true)⟩,
  ⟨.bin .gtr, (ch 1002), (.int .i64 99999), (.bool false)⟩,
  ⟨.bin .add, (ch 1002), (.int .i64 1), (ch 1003)⟩,
  ⟨.bin .add, (ch 1000), (.int .i64 4), (ch 1004)⟩,
  ⟨.bin .gtr, (ch 1004), (.int .i64 99999), (.bool false)⟩,
  ⟨.bin .neq, (ch 1002), (ch 1004), (.bool false)⟩,
  ⟨.bin .gtr, (ch 1002), (.int .i64 0), (.bool true)⟩,
  ⟨.bin .eql, (ch 1002), (.int .i64 0), (.bool false)⟩]
theorem Tryz.ChiefOne.i28 : Tryz.ChiefOne.d15.sub 8 [] (idl 8 Tryz.ChiefOne.d15.objs) (idA 3) (Tryz.ChiefOne.d15.st 8 []) = true := by kernel_rfl
theorem Tryz.ChiefOne.r28 : leafNext (fK (Tryz.Es Tryz.m4 (syOf Tryz.ChiefOne.t28)) 100000 100000 Tryz.ChiefOne.p0 (Tryz.ChiefOne.d15.st 8 []) 5) 8 Tryz.ChiefOne.d18 [(12, 12), (13, 18), (14, 14), (15, 15)] [(ch 1000), (ch 1001), (ch 1003)] = some Tryz.ChiefOne.p0 := by kernel_rfl
noncomputable def Tryz.ChiefOne.t29 : List SE := ncL [⟨.bin .lss, (.int .i64 4), (ch 1001), (.bool false)⟩]
theorem Tryz.ChiefOne.i29 : Tryz.ChiefOne.d15.sub 8 [] (idl 8 Tryz.ChiefOne.d15.objs) (idA 3) (Tryz.ChiefOne.d15.st 8 []) = true := by kernel_rfl
theorem Tryz.ChiefOne.r29 : leafFin (Tryz.Es Tryz.m4 (syOf Tryz.ChiefOne.t29)) Tryz.f3 (fK (Tryz.Es Tryz.m4 (syOf Tryz.ChiefOne.t29)) 100000 100000 Tryz.ChiefOne.p0 (Tryz.ChiefOne.d15.st 8 []) 1) = true := by kernel_rfl
noncomputable def Tryz.ChiefOne.t30 : List SE := ncL [⟨.bin .lss, (.int .i64 5), (ch 1001), (.bool true)⟩,
  ⟨.bin .gtr, (ch 1002), (.int .i64 99999), (.bool false)⟩,
  ⟨.bin .add, (ch 1002), (.int .i64 1), (ch 1003)⟩,
  ⟨.bin .add, (ch 1000), (.int .i64 5), (ch 1004)⟩,
  ⟨.bin .gtr, (ch 1004), (.int .i64 99999), (.bool false)⟩,
  ⟨.bin .neq, (ch 1002), (ch 1004), (.bool false)⟩,
  ⟨.bin .gtr, (ch 1002), (.int .i64 0), (.bool true)⟩,
  ⟨.bin .eql, (ch 1002), (.int .i64 0), (.bool false)⟩]
theorem Tryz.ChiefOne.i30 : Tryz.ChiefOne.d16.sub 8 [] (idl 8 Tryz.ChiefOne.d16.objs) (idA 3) (Tryz.ChiefOne.d16.st 8 []) = true := by kernel_rfl
theorem Tryz.ChiefOne.r30 : leafNext (fK (Tryz.Es Tryz.m4 (syOf Tryz.ChiefOne.t30)) 100000 100000 Tryz.ChiefOne.p0 (Tryz.ChiefOne.d16.st 8 []) 3) 8 Tryz.ChiefOne.d19 [(12, 12), (13, 18), (14, 14), (15, 15)] [(ch 1000), (ch 1001), (ch 1003)] = some Tryz.ChiefOne.p0 := by kernel_rfl
noncomputable def Tryz.ChiefOne.t31 : List SE := ncL [⟨.bin .lss, (.int .i64 5), (ch 1001), (.bool false)⟩]
theorem Tryz.ChiefOne.i31 : Tryz.ChiefOne.d16.sub 8 [] (idl 8 Tryz.ChiefOne.d16.objs) (idA 3) (Tryz.ChiefOne.d16.st 8 []) = true := by kernel_rfl
theorem Tryz.ChiefOne.r31 : leafFin (Tryz.Es Tryz.m4 (syOf Tryz.ChiefOne.t31)) Tryz.f3 (fK (Tryz.Es Tryz.m4 (syOf Tryz.ChiefOne.t31)) 100000 100000 Tryz.ChiefOne.p0 (Tryz.ChiefOne.d16.st 8 []) 1) = true := by kernel_rfl
noncomputable def Tryz.ChiefOne.t32 : List SE := ncL [⟨.bin .lss, (.int .i64 5), (ch 1001), (.bool true)⟩,
  ⟨.bin .gtr, (ch 1002), (.int .i64 99999), (.bool false)⟩,
  ⟨.bin .add, (ch 1002), (.int .i64 1), (ch 1003)⟩,
  ⟨.bin .add, (ch 1000), (.int .i64 5), (ch 1004)⟩,
  ⟨.bin .gtr, (ch 1004), (.int .i64 99999), (.bool false)⟩,
  ⟨.bin .neq, (ch 1002), (ch 1004), (.bool false)⟩,
  ⟨.bin .gtr, (ch 1002), (.int .i64 0), (.bool true)⟩,
  ⟨.bin .eql, (ch 1002), (.int .i64 0), (.bool false)⟩]
theorem Tryz.ChiefOne.i32 : Tryz.ChiefOne.d17.sub 8 [] (idl 8 Tryz.ChiefOne.d17.objs) (idA 3) (Tryz.ChiefOne.d17.st 8 []) = true := by kernel_rfl
theorem Tryz.ChiefOne.r32 : leafNext (fK (Tryz.Es Tryz.m4 (syOf Tryz.ChiefOne.t32)) 100000 100000 Tryz.ChiefOne.p0 (Tryz.ChiefOne.d17.st 8 []) 4) 8 Tryz.ChiefOne.d20 [(12, 12), (13, 18), (14, 14), (15, 15)] [(ch 1000), (ch 1001), (ch 1003)] = some Tryz.ChiefOne.p0 := by kernel_rfl
noncomputable def Tryz.ChiefOne.t33 : List SE := ncL [⟨.bin .lss, (.int .i64 5), (ch 1001), (.bool false)⟩]
theorem Tryz.ChiefOne.i33 : Tryz.ChiefOne.d17.sub 8 [] (idl 8 Tryz.ChiefOne.d17.objs) (idA 3) (Tryz.ChiefOne.d17.st 8 []) = true := by kernel_rfl
theorem Tryz.ChiefOne.r33 : leafFin (Tryz.Es Tryz.m4 (syOf Tryz.ChiefOne.t33)) Tryz.f3 (fK (Tryz.Es Tryz.m4 (syOf Tryz.ChiefOne.t33)) 100000 100000 Tryz.ChiefOne.p0 (Tryz.ChiefOne.d17.st 8 []) 1) = true := by kernel_rfl
noncomputable def Tryz.ChiefOne.t34 : List SE := ncL [⟨.bin .lss, (.int .i64 5), (ch 1001), (.bool true)⟩,
  ⟨.bin .gtr, (ch 1002), (.int .i64 99999), (.bool false)⟩,
  ⟨.bin .add, (ch 1002), (.int .i64 1), (ch 1003)⟩,
  ⟨.bin .add, (ch 1000), (.int .i64 5), (ch 1004)⟩,
  ⟨.bin .gtr, (ch 1004), (.int .i64 99999), (.bool false)⟩,
  ⟨.bin .neq, (ch 1002), (ch 1004), (.bool false)⟩,
  ⟨.bin .gtr, (ch 1002), (.int .i64 0), (.bool true)⟩,
  ⟨.bin .eql, (ch 1002), (.int .i64 0), (.bool false)⟩]
theorem Tryz.ChiefOne.i34 : Tryz.ChiefOne.d18.sub 8 [] (idl 8 Tryz.ChiefOne.d18.objs) (idA 3) (Tryz.ChiefOne.d18.st 8 []) = true := by kernel_rfl
theorem Tryz.ChiefOne.r34 : leafNext (fK (Tryz.Es Tryz.m4 (syOf Tryz.ChiefOne.t34)) 100000 100000 Tryz.ChiefOne.p0 (Tryz.ChiefOne.d18.st 8 []) 5) 8 Tryz.ChiefOne.d21 [(12, 12), (13, 18), (14, 14), (15, 15)] [(ch 1000), (ch 1001), (ch 1003)] = some Tryz.ChiefOne.p0 := by kernel_rfl
noncomputable def Tryz.ChiefOne.t35 : List SE := ncL [⟨.bin .lss, (.int .i64 5), (ch 1001), (.bool false)⟩]
theorem Tryz.ChiefOne.i35 : Tryz.ChiefOne.d18.sub 8 [] (idl 8 Tryz.ChiefOne.d18.objs) (idA 3) (Tryz.ChiefOne.d18.st 8 []) = true := by kernel_rfl
theorem Tryz.ChiefOne.r35 : leafFin (Tryz.Es Tryz.m4 (syOf Tryz.ChiefOne.t35)) Tryz.f3 (fK (Tryz.Es Tryz.m4 (syOf Tryz.ChiefOne.t35)) 100000 100000 Tryz.ChiefOne.p0 (Tryz.ChiefOne.d18.st 8 []) 1) = true := by kernel_rfl
noncomputable def Tryz.ChiefOne.t36 : List SE := ncL [⟨.bin .lss, (.int .i64 6), (ch 1001), (.bool true)⟩,
  ⟨.bin .gtr, (ch 1002), (.int .i64 99999), (.bool false)⟩,
  ⟨.bin .add, (ch 1002), (.int .i64 1), (ch 1003)⟩,
  ⟨.bin .add, (ch 1000), (.int .i64 6), (ch 1004)⟩,
  ⟨.bin .gtr, (ch 1004), (.int .i64 99999), (.bool false)⟩,
  ⟨.bin .neq, (ch 1002), (ch 1004), (.bool false)⟩,
  ⟨.bin .gtr, (ch 1002), (.int .i64 0), (.bool true)⟩,
  ⟨.bin .eql, (ch 1002), (.int .i64 0), (.bool false)⟩]
theorem Tryz.ChiefOne.i36 : Tryz.ChiefOne.d19.sub 8 [] (idl 8 Tryz.ChiefOne.d19.objs) (idA 3) (Tryz.ChiefOne.d19.st 8 []) = true := by kernel_rfl
theorem Tryz.ChiefOne.r36 : leafNext (fK (Tryz.Es Tryz.m4 (syOf Tryz.ChiefOne.t36)) 100000 100000 Tryz.ChiefOne.p0 (Tryz.ChiefOne.d19.st 8 []) 3) 8 Tryz.ChiefOne.d22 [(12, 12), (13, 18), (14, 14), (15, 15)] [(ch 1000), (ch 1001), (ch 1003)] = some Tryz.ChiefOne.p0 := by kernel_rfl
noncomputable def Tryz.ChiefOne.t37 : List SE := ncL [⟨.bin .lss, (.int .i64 6), (ch 1001), (.bool false)⟩]
theorem Tryz.ChiefOne.i37 : Tryz.ChiefOne.d19.sub 8 [] (idl 8 Tryz.ChiefOne.d19.objs) (idA 3) (Tryz.ChiefOne.d19.st 8 []) = true := by kernel_rfl
theorem Tryz.ChiefOne.r37 : leafFin (Tryz.Es Tryz.m4 (syOf Tryz.ChiefOne.t37)) Tryz.f3 (fK (Tryz.Es Tryz.m4 (syOf Tryz.ChiefOne.t37)) 100000 100000 Tryz.ChiefOne.p0 (Tryz.ChiefOne.d19.st 8 []) 1) = true := by kernel_rfl
noncomputable def Tryz.ChiefOne.t38 : List SE := ncL [⟨.bin .lss, (.int .i64 6), (ch 1001), (.bool true)⟩,
  ⟨.bin .gtr, (ch 1002), (.int .i64 99999), (.bool false)⟩,
  ⟨.bin .add, (ch 1002), (.int .i64 1), (ch 1003)⟩,
  ⟨.bin .add, (ch 1000), (.int .i64 6), (ch 1004)⟩,
  ⟨.bin .gtr, (ch 1004), (.int .i64 99999), (.bool false)⟩,
  ⟨.bin .neq, (ch 1002), (ch 1004), (.bool false)⟩,
  ⟨.bin .gtr, (ch 1002), (.int .i64 0), (.bool true)⟩,
  ⟨.bin .eql, (ch 1002), (.int .i64 0), (.bool false)⟩]
theorem Tryz.ChiefOne.i38 : Tryz.ChiefOne.d20.sub 8 [] (idl 8 Tryz.ChiefOne.d20.objs) (idA 3) (Tryz.ChiefOne.d20.st 8 []) = true := by kernel_rfl
theorem Tryz.ChiefOne.r38 : leafNext (fK (Tryz.Es Tryz.m4 (syOf Tryz.ChiefOne.t38)) 100000 100000 Tryz.ChiefOne.p0 (Tryz.ChiefOne.d20.st 8 []) 4) 8 Tryz.ChiefOne.d23 [(12, 12), (13, 18), (14, 14), (15, 15)] [(ch 1000), (ch 1001), (ch 1003)] = some Tryz.ChiefOne.p0 := by kernel_rfl
noncomputable def Tryz.ChiefOne.t39 : List SE := ncL [⟨.bin .lss, (.int .i64 6), (ch 1001), (.bool false)⟩]
theorem Tryz.ChiefOne.i39 : Tryz.ChiefOne.d20.sub 8 [] (idl 8 Tryz.ChiefOne.d20.objs) (idA 3) (Tryz.ChiefOne.d20.st 8 []) = true := by kernel_rfl
theorem Tryz.ChiefOne.r39 : leafFin (Tryz.Es Tryz.m4 (syOf Tryz.ChiefOne.t39)) Tryz.f3 (fK (Tryz.Es Tryz.m4 (syOf Tryz.ChiefOne.t39)) 100000 100000 Tryz.ChiefOne.p0 (Tryz.ChiefOne.d20.st 8 []) 1) = true := by kernel_rfl
noncomputable def Tryz.ChiefOne.t40 : List SE := ncL [⟨.bin .lss, (.int .i64 6), (ch 1001), (.bool true)⟩,
  ⟨.bin .gtr, (ch 1002), (.int .i64 99999), (.bool false)⟩,
  ⟨.bin .add, (ch 1002), (.int .i64 1), (ch 1003)⟩,
  ⟨.bin .add, (ch 1000), (.int .i64 6), (ch 1004)⟩,
  ⟨.bin .gtr, (ch 1004), (.int .i64 99999), (.bool false)⟩,
  ⟨.bin .neq, (ch 1002), (ch 1004), (.bool false)⟩,
  ⟨.bin .gtr, (ch 1002), (.int .i64 0), (.bool true)⟩,
  ⟨.bin .eql, (ch 1002), (.int .i64 0), (.bool false)⟩]
theorem Tryz.ChiefOne.i40 : Tryz.ChiefOne.d21.sub 8 [] (idl 8 Tryz.ChiefOne.d21.objs) (idA 3) (Tryz.ChiefOne.d21.st 8 []) = true := by kernel_rfl
theorem Tryz.ChiefOne.r40 : leafNext (fK (Tryz.Es Tryz.m4 (syOf Tryz.ChiefOne.t40)) 100000 100000 Tryz.ChiefOne.p0 (Tryz.ChiefOne.d21.st 8 []) 5) 8 Tryz.ChiefOne.d24 [(12, 12), (13, 18), (14, 14), (15, 15)] [(ch 1000), (ch 1001), (ch 1003)] = some Tryz.ChiefOne.p0 := by kernel_rfl
end
end Go.Proofs
