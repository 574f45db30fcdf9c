/- Pieces of the law's run, from node to node, answered by the executor. No conditions. -/
import Derived.Test.YtekfgehpcakonaaGreatDoorVSeatTableAddNd
set_option linter.all false
namespace Go.Proofs
open Go Go.Vsx
set_option maxRecDepth 1000000
noncomputable section
noncomputable def Zw.t0 : List SE := ncL [⟨.bin .rem, (ch 1001), (.int .i64 8), (ch 1002)⟩,
  ⟨.bin .add, (ch 1002), (.int .i64 8), (ch 1003)⟩,
  ⟨.bin .rem, (ch 1003), (.int .i64 8), (.int .i64 0)⟩]
theorem Zw.i0 : Zw.d0.sub 8 [] (idl 8 Zw.d0.objs) (idA 2) (Zw.d0.st 8 []) = true := by kernel_rfl
theorem Zw.r0 : leafNext (fK (Tryz.Es Tryz.m4 (syOf Zw.t0)) 100000 100000 Zw.pS (Zw.d0.st 8 []) 0) 8 Zw.d1 [(10, 13), (11, 10), (12, 11), (13, 12)] [(ch 1000), (.int .i64 0)] = some Zw.p0 := by kernel_rfl
noncomputable def Zw.t1 : List SE := ncL [⟨.bin .rem, (ch 1001), (.int .i64 8), (ch 1002)⟩,
  ⟨.bin .add, (ch 1002), (.int .i64 8), (ch 1003)⟩,
  ⟨.bin .rem, (ch 1003), (.int .i64 8), (.int .i64 1)⟩]
theorem Zw.i1 : Zw.d0.sub 8 [] (idl 8 Zw.d0.objs) (idA 2) (Zw.d0.st 8 []) = true := by kernel_rfl
theorem Zw.r1 : leafNext (fK (Tryz.Es Tryz.m4 (syOf Zw.t1)) 100000 100000 Zw.pS (Zw.d0.st 8 []) 0) 8 Zw.d2 [(10, 13), (11, 10), (12, 11), (13, 12)] [(ch 1000), (.int .i64 0)] = some Zw.p0 := by kernel_rfl
noncomputable def Zw.t2 : List SE := ncL [⟨.bin .rem, (ch 1001), (.int .i64 8), (ch 1002)⟩,
  ⟨.bin .add, (ch 1002), (.int .i64 8), (ch 1003)⟩,
  ⟨.bin .rem, (ch 1003), (.int .i64 8), (.int .i64 2)⟩]
theorem Zw.i2 : Zw.d0.sub 8 [] (idl 8 Zw.d0.objs) (idA 2) (Zw.d0.st 8 []) = true := by kernel_rfl
theorem Zw.r2 : leafNext (fK (Tryz.Es Tryz.m4 (syOf Zw.t2)) 100000 100000 Zw.pS (Zw.d0.st 8 []) 0) 8 Zw.d3 [(10, 13), (11, 10), (12, 11), (13, 12)] [(ch 1000), (.int .i64 0)] = some Zw.p0 := by kernel_rfl
noncomputable def Zw.t3 : List SE := ncL [⟨.bin .rem, (ch 1001), (.int .i64 8), (ch 1002)⟩,
  ⟨.bin .add, (ch 1002), (.int .i64 8), (ch 1003)⟩,
  ⟨.bin .rem, (ch 1003), (.int .i64 8), (.int .i64 3)⟩]
theorem Zw.i3 : Zw.d0.sub 8 [] (idl 8 Zw.d0.objs) (idA 2) (Zw.d0.st 8 []) = true := by kernel_rfl
theorem Zw.r3 : leafNext (fK (Tryz.Es Tryz.m4 (syOf Zw.t3)) 100000 100000 Zw.pS (Zw.d0.st 8 []) 0) 8 Zw.d4 [(10, 13), (11, 10), (12, 11), (13, 12)] [(ch 1000), (.int .i64 0)] = some Zw.p0 := by kernel_rfl
noncomputable def Zw.t4 : List SE := ncL [⟨.bin .rem, (ch 1001), (.int .i64 8), (ch 1002)⟩,
  ⟨.bin .add, (ch 1002), (.int .i64 8), (ch 1003)⟩,
  ⟨.bin .rem, (ch 1003), (.int .i64 8), (.int .i64 4)⟩]
theorem Zw.i4 : Zw.d0.sub 8 [] (idl 8 Zw.d0.objs) (idA 2) (Zw.d0.st 8 []) = true := by kernel_rfl
theorem Zw.r4 : leafNext (fK (Tryz.Es Tryz.m4 (syOf Zw.t4)) 100000 100000 Zw.pS (Zw.d0.st 8 []) 0) 8 Zw.d5 [(10, 13), (11, 10), (12, 11), (13, 12)] [(ch 1000), (.int .i64 0)] = some Zw.p0 := by kernel_rfl
noncomputable def Zw.t5 : List SE := ncL [⟨.bin .rem, (ch 1001), (.int .i64 8), (ch 1002)⟩,
  ⟨.bin .add, (ch 1002), (.int .i64 8), (ch 1003)⟩,
  ⟨.bin .rem, (ch 1003), (.int .i64 8), (.int .i64 5)⟩]
theorem Zw.i5 : Zw.d0.sub 8 [] (idl 8 Zw.d0.objs) (idA 2) (Zw.d0.st 8 []) = true := by kernel_rfl
theorem Zw.r5 : leafNext (fK (Tryz.Es Tryz.m4 (syOf Zw.t5)) 100000 100000 Zw.pS (Zw.d0.st 8 []) 0) 8 Zw.d6 [(10, 13), (11, 10), (12, 11), (13, 12)] [(ch 1000), (.int .i64 0)] = some Zw.p0 := by kernel_rfl
noncomputable def Zw.t6 : List SE := ncL [⟨.bin .rem, (ch 1001), (.int .i64 8), (ch 1002)⟩,
  ⟨.bin .add, (ch 1002), (.int .i64 8), (ch 1003)⟩,
  ⟨.bin .rem, (ch 1003), (.int .i64 8), (.int .i64 6)⟩]
theorem Zw.i6 : Zw.d0.sub 8 [] (idl 8 Zw.d0.objs) (idA 2) (Zw.d0.st 8 []) = true := by kernel_rfl
theorem Zw.r6 : leafNext (fK (Tryz.Es Tryz.m4 (syOf Zw.t6)) 100000 100000 Zw.pS (Zw.d0.st 8 []) 0) 8 Zw.d7 [(10, 13), (11, 10), (12, 11), (13, 12)] [(ch 1000), (.int .i64 0)] = some Zw.p0 := by kernel_rfl
noncomputable def Zw.t7 : List SE := ncL [⟨.bin .rem, (ch 1001), (.int .i64 8), (ch 1002)⟩,
  ⟨.bin .add, (ch 1002), (.int .i64 8), (ch 1003)⟩,
  ⟨.bin .rem, (ch 1003), (.int .i64 8), (.int .i64 7)⟩]
theorem Zw.i7 : Zw.d0.sub 8 [] (idl 8 Zw.d0.objs) (idA 2) (Zw.d0.st 8 []) = true := by kernel_rfl
theorem Zw.r7 : leafNext (fK (Tryz.Es Tryz.m4 (syOf Zw.t7)) 100000 100000 Zw.pS (Zw.d0.st 8 []) 0) 8 Zw.d8 [(10, 13), (11, 10), (12, 11), (13, 12)] [(ch 1000), (.int .i64 0)] = some Zw.p0 := by kernel_rfl
noncomputable def Zw.t8 : List SE := ncL [⟨.len, (ch 1000), (.int .i64 0), (ch 1003)⟩,
  ⟨.bin .lss, (ch 1001), (ch 1003), (.bool true)⟩,
  ⟨.bin .lss, (ch 1001), (.int .i64 30), (.bool true)⟩,
  ⟨.idx 1, (ch 1000), (ch 1001), (.pointer (some ⟨8, 0, none⟩))⟩,
  ⟨.bin .add, (.int .i64 0), (ch 1002), (ch 1004)⟩,
  ⟨.bin .neq, (ch 1004), (ch 1004), (.bool false)⟩,
  ⟨.bin .add, (ch 1001), (.int .i64 1), (ch 1005)⟩]
theorem Zw.i8 : Zw.d1.sub 8 [[(ch 1002)]] (idl 8 Zw.d1.objs) (idA 2) (Zw.d1.st 8 []) = true := by kernel_rfl
theorem Zw.r8 : leafNext (fK (Tryz.Es Tryz.m4 (syOf Zw.t8)) 100000 100000 Zw.p0 (Zw.d1.st 8 [[(ch 1002)]]) 1) 8 Zw.d9 [(10, 10), (11, 11), (12, 12), (13, 13), (14, 67)] [(ch 1000), (ch 1004), (ch 1005)] = some Zw.p0 := by kernel_rfl
noncomputable def Zw.t9 : List SE := ncL [⟨.len, (ch 1000), (.int .i64 0), (ch 1002)⟩,
  ⟨.bin .lss, (ch 1001), (ch 1002), (.bool true)⟩,
  ⟨.bin .lss, (ch 1001), (.int .i64 30), (.bool false)⟩]
theorem Zw.i9 : Zw.d1.sub 8 [] (idl 8 Zw.d1.objs) (idA 2) (Zw.d1.st 8 []) = true := by kernel_rfl
theorem Zw.r9 : leafFin (Tryz.Es Tryz.m4 (syOf Zw.t9)) Tryz.f3 (fK (Tryz.Es Tryz.m4 (syOf Zw.t9)) 100000 100000 Zw.p0 (Zw.d1.st 8 []) 1) = true := by kernel_rfl
noncomputable def Zw.t10 : List SE := ncL [⟨.len, (ch 1000), (.int .i64 0), (ch 1002)⟩,
  ⟨.bin .lss, (ch 1001), (ch 1002), (.bool false)⟩]
theorem Zw.i10 : Zw.d1.sub 8 [] (idl 8 Zw.d1.objs) (idA 2) (Zw.d1.st 8 []) = true := by kernel_rfl
theorem Zw.r10 : leafFin (Tryz.Es Tryz.m4 (syOf Zw.t10)) Tryz.f3 (fK (Tryz.Es Tryz.m4 (syOf Zw.t10)) 100000 100000 Zw.p0 (Zw.d1.st 8 []) 1) = true := by kernel_rfl
noncomputable def Zw.t11 : List SE := ncL [⟨.len, (ch 1000), (.int .i64 0), (ch 1003)⟩,
  ⟨.bin .lss, (ch 1001), (ch 1003), (.bool true)⟩,
  ⟨.bin .lss, (ch 1001), (.int .i64 30), (.bool true)⟩,
  ⟨.idx 1, (ch 1000), (ch 1001), (.pointer (some ⟨8, 0, none⟩))⟩,
  ⟨.bin .add, (.int .i64 0), (ch 1002), (ch 1004)⟩,
  ⟨.bin .neq, (ch 1004), (ch 1004), (.bool false)⟩,
  ⟨.bin .add, (ch 1001), (.int .i64 1), (ch 1005)⟩]
theorem Zw.i11 : Zw.d2.sub 8 [[(ch 1002)]] (idl 8 Zw.d2.objs) (idA 2) (Zw.d2.st 8 []) = true := by kernel_rfl
theorem Zw.r11 : leafNext (fK (Tryz.Es Tryz.m4 (syOf Zw.t11)) 100000 100000 Zw.p0 (Zw.d2.st 8 [[(ch 1002)]]) 1) 8 Zw.d10 [(10, 10), (11, 11), (12, 12), (13, 13), (14, 67)] [(ch 1000), (ch 1004), (ch 1005)] = some Zw.p0 := by kernel_rfl
noncomputable def Zw.t12 : List SE := ncL [⟨.len, (ch 1000), (.int .i64 0), (ch 1002)⟩,
  ⟨.bin .lss, (ch 1001), (ch 1002), (.bool true)⟩,
  ⟨.bin .lss, (ch 1001), (.int .i64 30), (.bool false)⟩]
theorem Zw.i12 : Zw.d2.sub 8 [] (idl 8 Zw.d2.objs) (idA 2) (Zw.d2.st 8 []) = true := by kernel_rfl
theorem Zw.r12 : leafFin (Tryz.Es Tryz.m4 (syOf Zw.t12)) Tryz.f3 (fK (Tryz.Es Tryz.m4 (syOf Zw.t12)) 100000 100000 Zw.p0 (Zw.d2.st 8 []) 1) = true := by kernel_rfl
noncomputable def Zw.t13 : List SE := ncL [⟨.len, (ch 1000), (.int .i64 0), (ch 1002)⟩,
  ⟨.bin .lss, (ch 1001), (ch 1002), (.bool false)⟩]
theorem Zw.i13 : Zw.d2.sub 8 [] (idl 8 Zw.d2.objs) (idA 2) (Zw.d2.st 8 []) = true := by kernel_rfl
theorem Zw.r13 : leafFin (Tryz.Es Tryz.m4 (syOf Zw.t13)) Tryz.f3 (fK (Tryz.Es Tryz.m4 (syOf Zw.t13)) 100000 100000 Zw.p0 (Zw.d2.st 8 []) 1) = true := by kernel_rfl
noncomputable def Zw.t14 : List SE := ncL [⟨.len, (ch 1000), (.int .i64 0), (ch 1003)⟩,
  ⟨.bin .lss, (ch 1001), (ch 1003), (.bool true)⟩,
  ⟨.bin .lss, (ch 1001), (.int .i64 30), (.bool true)⟩,
  ⟨.idx 1, (ch 1000), (ch 1001), (.pointer (some ⟨8, 0, none⟩))⟩,
  ⟨.bin .add, (.int .i64 0), (ch 1002), (ch 1004)⟩,
  ⟨.bin .neq, (ch 1004), (ch 1004), (.bool false)⟩,
  ⟨.bin .add, (ch 1001), (.int .i64 1), (ch 1005)⟩]
theorem Zw.i14 : Zw.d3.sub 8 [[(ch 1002)]] (idl 8 Zw.d3.objs) (idA 2) (Zw.d3.st 8 []) = true := by kernel_rfl
theorem Zw.r14 : leafNext (fK (Tryz.Es Tryz.m4 (syOf Zw.t14)) 100000 100000 Zw.p0 (Zw.d3.st 8 [[(ch 1002)]]) 1) 8 Zw.d11 [(10, 10), (11, 11), (12, 12), (13, 13), (14, 67)] [(ch 1000), (ch 1004), (ch 1005)] = some Zw.p0 := by kernel_rfl
noncomputable def Zw.t15 : List SE := ncL [⟨.len, (ch 1000), (.int .i64 0), (ch 1002)⟩,
  ⟨.bin .lss, (ch 1001), (ch 1002), (.bool true)⟩,
  ⟨.bin .lss, (ch 1001), (.int .i64 30), (.bool false)⟩]
theorem Zw.i15 : Zw.d3.sub 8 [] (idl 8 Zw.d3.objs) (idA 2) (Zw.d3.st 8 []) = true := by kernel_rfl
theorem Zw.r15 : leafFin (Tryz.Es Tryz.m4 (syOf Zw.t15)) Tryz.f3 (fK (Tryz.Es Tryz.m4 (syOf Zw.t15)) 100000 100000 Zw.p0 (Zw.d3.st 8 []) 1) = true := by kernel_rfl
noncomputable def Zw.t16 : List SE := ncL [⟨.len, (ch 1000), (.int .i64 0), (ch 1002)⟩,
  ⟨.bin .lss, (ch 1001), (ch 1002), (.bool false)⟩]
theorem Zw.i16 : Zw.d3.sub 8 [] (idl 8 Zw.d3.objs) (idA 2) (Zw.d3.st 8 []) = true := by kernel_rfl
theorem Zw.r16 : leafFin (Tryz.Es Tryz.m4 (syOf Zw.t16)) Tryz.f3 (fK (Tryz.Es Tryz.m4 (syOf Zw.t16)) 100000 100000 Zw.p0 (Zw.d3.st 8 []) 1) = true := by kernel_rfl
noncomputable def Zw.t17 : List SE := ncL [⟨.len, (ch 1000), (.int .i64 0), (ch 1003)⟩,
  ⟨.bin .lss, (ch 1001), (ch 1003), (.bool true)⟩,
  ⟨.bin .lss, (ch 1001), (.int .i64 30), (.bool true)⟩,
  ⟨.idx 1, (ch 1000), (ch 1001), (.pointer (some ⟨8, 0, none⟩))⟩,
  ⟨.bin .add, (.int .i64 0), (ch 1002), (ch 1004)⟩,
  ⟨.bin .neq, (ch 1004), (ch 1004), (.bool false)⟩,
  ⟨.bin .add, (ch 1001), (.int .i64 1), (ch 1005)⟩]
theorem Zw.i17 : Zw.d4.sub 8 [[(ch 1002)]] (idl 8 Zw.d4.objs) (idA 2) (Zw.d4.st 8 []) = true := by kernel_rfl
theorem Zw.r17 : leafNext (fK (Tryz.Es Tryz.m4 (syOf Zw.t17)) 100000 100000 Zw.p0 (Zw.d4.st 8 [[(ch 1002)]]) 1) 8 Zw.d12 [(10, 10), (11, 11), (12, 12), (13, 13), (14, 67)] [(ch 1000), (ch 1004), (ch 1005)] = some Zw.p0 := by kernel_rfl
noncomputable def Zw.t18 : List SE := ncL [⟨.len, (ch 1000), (.int .i64 0), (ch 1002)⟩,
  ⟨.bin .lss, (ch 1001), (ch 1002), (.bool true)⟩,
  ⟨.bin .lss, (ch 1001), (.int .i64 30), (.bool false)⟩]
theorem Zw.i18 : Zw.d4.sub 8 [] (idl 8 Zw.d4.objs) (idA 2) (Zw.d4.st 8 []) = true := by kernel_rfl
theorem Zw.r18 : leafFin (Tryz.Es Tryz.m4 (syOf Zw.t18)) Tryz.f3 (fK (Tryz.Es Tryz.m4 (syOf Zw.t18)) 100000 100000 Zw.p0 (Zw.d4.st 8 []) 1) = true := by kernel_rfl
noncomputable def Zw.t19 : List SE := ncL [⟨.len, (ch 1000), (.int .i64 0), (ch 1002)⟩,
  ⟨.bin .lss, (ch 1001), (ch 1002), (.bool false)⟩]
theorem Zw.i19 : Zw.d4.sub 8 [] (idl 8 Zw.d4.objs) (idA 2) (Zw.d4.st 8 []) = true := by kernel_rfl
theorem Zw.r19 : leafFin (Tryz.Es Tryz.m4 (syOf Zw.t19)) Tryz.f3 (fK (Tryz.Es Tryz.m4 (syOf Zw.t19)) 100000 100000 Zw.p0 (Zw.d4.st 8 []) 1) = true := by kernel_rfl
noncomputable def Zw.t20 : List SE := ncL [⟨.len, (ch 1000), (.int .i64 0), (ch 1003)⟩,
  ⟨.bin .lss, (ch 1001), (ch 1003), (.bool true)⟩,
  ⟨.bin .lss, (ch 1001), (.int .i64 30), (.bool true)⟩,
  ⟨.idx 1, (ch 1000), (ch 1001), (.pointer (some ⟨8, 0, none⟩))⟩,
  ⟨.bin .add, (.int .i64 0), (ch 1002), (ch 1004)⟩,
  ⟨.bin .neq, (ch 1004), (ch 1004), (.bool false)⟩,
  ⟨.bin .add, (ch 1001), (.int .i64 1), (ch 1005)⟩]
theorem Zw.i20 : Zw.d5.sub 8 [[(ch 1002)]] (idl 8 Zw.d5.objs) (idA 2) (Zw.d5.st 8 []) = true := by kernel_rfl
theorem Zw.r20 : leafNext (fK (Tryz.Es Tryz.m4 (syOf Zw.t20)) 100000 100000 Zw.p0 (Zw.d5.st 8 [[(ch 1002)]]) 1) 8 Zw.d13 [(10, 10), (11, 11), (12, 12), (13, 13), (14, 67)] [(ch 1000), (ch 1004), (ch 1005)] = some Zw.p0 := by kernel_rfl
noncomputable def Zw.t21 : List SE := ncL [⟨.len, (ch 1000), (.int .i64 0), (ch 1002)⟩,
  ⟨.bin .lss, (ch 1001), (ch 1002), (.bool true)⟩,
  ⟨.bin .lss, (ch 1001), (.int .i64 30), (.bool false)⟩]
theorem Zw.i21 : Zw.d5.sub 8 [] (idl 8 Zw.d5.objs) (idA 2) (Zw.d5.st 8 []) = true := by kernel_rfl
theorem Zw.r21 : leafFin (Tryz.Es Tryz.m4 (syOf Zw.t21)) Tryz.f3 (fK (Tryz.Es Tryz.m4 (syOf Zw.t21)) 100000 100000 Zw.p0 (Zw.d5.st 8 []) 1) = true := by kernel_rfl
noncomputable def Zw.t22 : List SE := ncL [⟨.len, (ch 1000), (.int .i64 0), (ch 1002)⟩,
  ⟨.bin .lss, (ch 1001), (ch 1002), (.bool false)⟩]
theorem Zw.i22 : Zw.d5.sub 8 [] (idl 8 Zw.d5.objs) (idA 2) (Zw.d5.st 8 []) = true := by kernel_rfl
theorem Zw.r22 : leafFin (Tryz.Es Tryz.m4 (syOf Zw.t22)) Tryz.f3 (fK (Tryz.Es Tryz.m4 (syOf Zw.t22)) 100000 100000 Zw.p0 (Zw.d5.st 8 []) 1) = true := by kernel_rfl
noncomputable def Zw.t23 : List SE := ncL [⟨.len, (ch 1000), (.int .i64 0), (ch 1003)⟩,
  ⟨.bin .lss, (ch 1001), (ch 1003), (.bool true)⟩,
  ⟨.bin .lss, (ch 1001), (.int .i64 30), (.bool true)⟩,
  ⟨.idx 1, (ch 1000), (ch 1001), (.pointer (some ⟨8, 0, none⟩))⟩,
  ⟨.bin .add, (.int .i64 0), (ch 1002), (ch 1004)⟩,
  ⟨.bin .neq, (ch 1004), (ch 1004), (.bool false)⟩,
  ⟨.bin .add, (ch 1001), (.int .i64 1), (ch 1005)⟩]
theorem Zw.i23 : Zw.d6.sub 8 [[(ch 1002)]] (idl 8 Zw.d6.objs) (idA 2) (Zw.d6.st 8 []) = true := by kernel_rfl
theorem Zw.r23 : leafNext (fK (Tryz.Es Tryz.m4 (syOf Zw.t23)) 100000 100000 Zw.p0 (Zw.d6.st 8 [[(ch 1002)]]) 1) 8 Zw.d14 [(10, 10), (11, 11), (12, 12), (13, 13), (14, 67)] [(ch 1000), (ch 1004), (ch 1005)] = some Zw.p0 := by kernel_rfl
noncomputable def Zw.t24 : List SE := ncL [⟨.len, (ch 1000), (.int .i64 0), (ch 1002)⟩,
  ⟨.bin .lss, (ch 1001), (ch 1002), (.bool true)⟩,
  ⟨.bin .lss, (ch 1001), (.int .i64 30), (.bool false)⟩]
theorem Zw.i24 : Zw.d6.sub 8 [] (idl 8 Zw.d6.objs) (idA 2) (Zw.d6.st 8 []) = true := by kernel_rfl
theorem Zw.r24 : leafFin (Tryz.Es Tryz.m4 (syOf Zw.t24)) Tryz.f3 (fK (Tryz.Es Tryz.m4 (syOf Zw.t24)) 100000 100000 Zw.p0 (Zw.d6.st 8 []) 1) = true := by kernel_rfl
noncomputable def Zw.t25 : List SE := ncL [⟨.len, (ch 1000), (.int .i64 0), (ch 1002)⟩,
  ⟨.bin .lss, (ch 1001), (ch 1002), (.bool false)⟩]
theorem Zw.i25 : Zw.d6.sub 8 [] (idl 8 Zw.d6.objs) (idA 2) (Zw.d6.st 8 []) = true := by kernel_rfl
theorem Zw.r25 : leafFin (Tryz.Es Tryz.m4 (syOf Zw.t25)) Tryz.f3 (fK (Tryz.Es Tryz.m4 (syOf Zw.t25)) 100000 100000 Zw.p0 (Zw.d6.st 8 []) 1) = true := by kernel_rfl
noncomputable def Zw.t26 : List SE := ncL [⟨.len, (ch 1000), (.int .i64 0), (ch 1003)⟩,
  ⟨.bin .lss, (ch 1001), (ch 1003), (.bool true)⟩,
  ⟨.bin .lss, (ch 1001), (.int .i64 30), (.bool true)⟩,
  ⟨.idx 1, (ch 1000), (ch 1001), (.pointer (some ⟨8, 0, none⟩))⟩,
  ⟨.bin .add, (.int .i64 0), (ch 1002), (ch 1004)⟩,
  ⟨.bin .neq, (ch 1004), (ch 1004), (.bool false)⟩,
  ⟨.bin .add, (ch 1001), (.int .i64 1), (ch 1005)⟩]
theorem Zw.i26 : Zw.d7.sub 8 [[(ch 1002)]] (idl 8 Zw.d7.objs) (idA 2) (Zw.d7.st 8 []) = true := by kernel_rfl
theorem Zw.r26 : leafNext (fK (Tryz.Es Tryz.m4 (syOf Zw.t26)) 100000 100000 Zw.p0 (Zw.d7.st 8 [[(ch 1002)]]) 1) 8 Zw.d15 [(10, 10), (11, 11), (12, 12), (13, 13), (14, 67)] [(ch 1000), (ch 1004), (ch 1005)] = some Zw.p0 := by kernel_rfl
noncomputable def Zw.t27 : List SE := ncL [⟨.len, (ch 1000), (.int .i64 0), (ch 1002)⟩,
  ⟨.bin .lss, (ch 1001), (ch 1002), (.bool true)⟩,
  ⟨.bin .lss, (ch 1001), (.int .i64 30), (.bool false)⟩]
theorem Zw.i27 : Zw.d7.sub 8 [] (idl 8 Zw.d7.objs) (idA 2) (Zw.d7.st 8 []) = true := by kernel_rfl
theorem Zw.r27 : leafFin (Tryz.Es Tryz.m4 (syOf Zw.t27)) Tryz.f3 (fK (Tryz.Es Tryz.m4 (syOf Zw.t27)) 100000 100000 Zw.p0 (Zw.d7.st 8 []) 1) = true := by kernel_rfl
end
end Go.Proofs
