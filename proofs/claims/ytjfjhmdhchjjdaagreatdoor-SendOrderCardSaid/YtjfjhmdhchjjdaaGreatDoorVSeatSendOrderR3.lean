/- Pieces of the law's run, from node to node, answered by the executor. No conditions. -/
import Derived.Test.YtjfjhmdhchjjdaaGreatDoorVSeatSendOrderNd
set_option linter.all false
namespace Go.Proofs
open Go Go.Vsx
set_option maxRecDepth 1000000
noncomputable section
noncomputable def Zw.t2 : List SE := ncL [⟨.bin .rem, (ch 1000), (.int .i64 12), (ch 1002)⟩,
  ⟨.bin .add, (ch 1002), (.int .i64 12), (ch 1003)⟩,
  ⟨.bin .rem, (ch 1003), (.int .i64 12), (.int .i64 2)⟩]
theorem Zw.i2 : Zw.d0.sub 8 [] (idl 8 Zw.d0.objs) (idA 2) (Zw.d0.st 8 []) = true := by kernel_rfl
theorem Zw.r2 : leafNext (fK (Tryz.Es Tryz.m3 (syOf Zw.t2)) 100000 100000 Zw.pS (Zw.d0.st 8 []) 3) 8 Zw.d3 [(10, 10), (11, 12), (12, 23), (13, 28), (14, 11), (15, 18), (16, 26)] [(ch 1001), (.int .i64 0)] = some Zw.p2 := by kernel_rfl
noncomputable def Zw.t5 : List SE := ncL [⟨.bin .rem, (ch 1000), (.int .i64 12), (ch 1002)⟩,
  ⟨.bin .add, (ch 1002), (.int .i64 12), (ch 1003)⟩,
  ⟨.bin .rem, (ch 1003), (.int .i64 12), (.int .i64 5)⟩]
theorem Zw.i5 : Zw.d0.sub 8 [] (idl 8 Zw.d0.objs) (idA 2) (Zw.d0.st 8 []) = true := by kernel_rfl
theorem Zw.r5 : leafNext (fK (Tryz.Es Tryz.m3 (syOf Zw.t5)) 100000 100000 Zw.pS (Zw.d0.st 8 []) 6) 8 Zw.d6 [(10, 10), (11, 12), (12, 47), (13, 52), (14, 11), (15, 18), (16, 26), (17, 34), (18, 42), (19, 50)] [(ch 1001), (.int .i64 0)] = some Zw.p2 := by kernel_rfl
noncomputable def Zw.t8 : List SE := ncL [⟨.bin .rem, (ch 1000), (.int .i64 12), (ch 1002)⟩,
  ⟨.bin .add, (ch 1002), (.int .i64 12), (ch 1003)⟩,
  ⟨.bin .rem, (ch 1003), (.int .i64 12), (.int .i64 8)⟩]
theorem Zw.i8 : Zw.d0.sub 8 [] (idl 8 Zw.d0.objs) (idA 2) (Zw.d0.st 8 []) = true := by kernel_rfl
theorem Zw.r8 : leafNext (fK (Tryz.Es Tryz.m3 (syOf Zw.t8)) 100000 100000 Zw.pS (Zw.d0.st 8 []) 9) 8 Zw.d9 [(10, 10), (11, 12), (12, 71), (13, 76), (14, 11), (15, 18), (16, 26), (17, 34), (18, 42), (19, 50), (20, 58), (21, 66), (22, 74)] [(ch 1001), (.int .i64 0)] = some Zw.p2 := by kernel_rfl
noncomputable def Zw.t11 : List SE := ncL [⟨.bin .rem, (ch 1000), (.int .i64 12), (ch 1002)⟩,
  ⟨.bin .add, (ch 1002), (.int .i64 12), (ch 1003)⟩,
  ⟨.bin .rem, (ch 1003), (.int .i64 12), (.int .i64 11)⟩]
theorem Zw.i11 : Zw.d0.sub 8 [] (idl 8 Zw.d0.objs) (idA 2) (Zw.d0.st 8 []) = true := by kernel_rfl
theorem Zw.r11 : leafNext (fK (Tryz.Es Tryz.m3 (syOf Zw.t11)) 100000 100000 Zw.pS (Zw.d0.st 8 []) 12) 8 Zw.d12 [(10, 10), (11, 12), (12, 95), (13, 100), (14, 11), (15, 18), (16, 26), (17, 34), (18, 42), (19, 50), (20, 58), (21, 66), (22, 74), (23, 82), (24, 90), (25, 98)] [(ch 1001), (.int .i64 0)] = some Zw.p2 := by kernel_rfl
noncomputable def Zw.t14 : List SE := ncL [Zw.sl 1001 200,
  Zw.sl 1001 100,
  ⟨.len, (ch 1000), (.int .i64 0), (ch 1002)⟩,
  ⟨.bin .lss, (ch 1001), (ch 1002), (.bool true)⟩,
  ⟨.idx 1, (ch 1000), (ch 1001), (.pointer (some ⟨8, 0, none⟩))⟩,
  ⟨.bin .add, (ch 1001), (.int .i64 1), (ch 1003)⟩]
theorem Zw.i14 : Zw.d2.sub 8 [[(.bool false)]] (idl 8 Zw.d2.objs) (idA 2) (Zw.d2.st 8 []) = true := by kernel_rfl
theorem Zw.r14 : leafNext (fK (Tryz.Es Tryz.m3 (syOf Zw.t14)) 100000 100000 Zw.p2 (Zw.d2.st 8 [[(.bool false)]]) 1) 8 Zw.d13 [(10, 10), (11, 11), (12, 12), (13, 19), (14, 13), (15, 14), (16, 17), (17, 15)] [(ch 1000), (ch 1003)] = some Zw.p2 := by kernel_rfl
noncomputable def Zw.t17 : List SE := ncL [Zw.sl 1001 200,
  Zw.sl 1001 100,
  ⟨.len, (ch 1000), (.int .i64 0), (ch 1002)⟩,
  ⟨.bin .lss, (ch 1001), (ch 1002), (.bool true)⟩,
  ⟨.idx 1, (ch 1000), (ch 1001), (.pointer (some ⟨8, 0, none⟩))⟩,
  ⟨.bin .add, (ch 1001), (.int .i64 1), (ch 1003)⟩]
theorem Zw.i17 : Zw.d3.sub 8 [[(.bool true)]] (idl 8 Zw.d3.objs) (idA 2) (Zw.d3.st 8 []) = true := by kernel_rfl
theorem Zw.r17 : leafNext (fK (Tryz.Es Tryz.m3 (syOf Zw.t17)) 100000 100000 Zw.p2 (Zw.d3.st 8 [[(.bool true)]]) 1) 8 Zw.d3 [(10, 10), (11, 11), (12, 12), (13, 13), (14, 14), (15, 15), (16, 16)] [(ch 1000), (ch 1003)] = some Zw.p2 := by kernel_rfl
noncomputable def Zw.t20 : List SE := ncL [Zw.sl 1001 200,
  ⟨.bin .lss, (ch 1001), (.int .i64 100), (.bool false)⟩,
  ⟨.bin .add, (ch 1001), (.int .i64 1), (ch 1002)⟩]
theorem Zw.i20 : Zw.d3.sub 8 [] (idl 8 Zw.d3.objs) (idA 2) (Zw.d3.st 8 []) = true := by kernel_rfl
theorem Zw.r20 : leafNext (fK (Tryz.Es Tryz.m3 (syOf Zw.t20)) 100000 100000 Zw.p2 (Zw.d3.st 8 []) 1) 8 Zw.d14 [(10, 10), (11, 11), (12, 12), (13, 20), (14, 13), (15, 14), (16, 18), (17, 15), (18, 16)] [(ch 1000), (ch 1002)] = some Zw.p2 := by kernel_rfl
noncomputable def Zw.t23 : List SE := ncL [Zw.sl 1001 200,
  Zw.sl 1001 100,
  ⟨.len, (ch 1000), (.int .i64 0), (ch 1002)⟩,
  ⟨.bin .lss, (ch 1001), (ch 1002), (.bool false)⟩,
  ⟨.bin .add, (ch 1001), (.int .i64 1), (ch 1003)⟩]
theorem Zw.i23 : Zw.d4.sub 8 [] (idl 8 Zw.d4.objs) (idA 2) (Zw.d4.st 8 []) = true := by kernel_rfl
theorem Zw.r23 : leafNext (fK (Tryz.Es Tryz.m3 (syOf Zw.t23)) 100000 100000 Zw.p2 (Zw.d4.st 8 []) 1) 8 Zw.d15 [(10, 10), (11, 11), (12, 12), (13, 21), (14, 13), (15, 14), (16, 19), (17, 15), (18, 16), (19, 17)] [(ch 1000), (ch 1003)] = some Zw.p2 := by kernel_rfl
noncomputable def Zw.t26 : List SE := ncL [Zw.sl 1001 200,
  Zw.sl 1001 100,
  ⟨.len, (ch 1000), (.int .i64 0), (ch 1002)⟩,
  ⟨.bin .lss, (ch 1001), (ch 1002), (.bool true)⟩,
  ⟨.idx 1, (ch 1000), (ch 1001), (.pointer (some ⟨8, 0, none⟩))⟩,
  ⟨.bin .add, (ch 1001), (.int .i64 1), (ch 1003)⟩]
theorem Zw.i26 : Zw.d5.sub 8 [[(.bool false)]] (idl 8 Zw.d5.objs) (idA 2) (Zw.d5.st 8 []) = true := by kernel_rfl
theorem Zw.r26 : leafNext (fK (Tryz.Es Tryz.m3 (syOf Zw.t26)) 100000 100000 Zw.p2 (Zw.d5.st 8 [[(.bool false)]]) 1) 8 Zw.d16 [(10, 10), (11, 11), (12, 12), (13, 22), (14, 13), (15, 14), (16, 20), (17, 15), (18, 16), (19, 17), (20, 18)] [(ch 1000), (ch 1003)] = some Zw.p2 := by kernel_rfl
noncomputable def Zw.t29 : List SE := ncL [Zw.sl 1001 200,
  Zw.sl 1001 100,
  ⟨.len, (ch 1000), (.int .i64 0), (ch 1002)⟩,
  ⟨.bin .lss, (ch 1001), (ch 1002), (.bool true)⟩,
  ⟨.idx 1, (ch 1000), (ch 1001), (.pointer (some ⟨8, 0, none⟩))⟩,
  ⟨.bin .add, (ch 1001), (.int .i64 1), (ch 1003)⟩]
theorem Zw.i29 : Zw.d6.sub 8 [[(.bool true)]] (idl 8 Zw.d6.objs) (idA 2) (Zw.d6.st 8 []) = true := by kernel_rfl
theorem Zw.r29 : leafNext (fK (Tryz.Es Tryz.m3 (syOf Zw.t29)) 100000 100000 Zw.p2 (Zw.d6.st 8 [[(.bool true)]]) 1) 8 Zw.d6 [(10, 10), (11, 11), (12, 12), (13, 13), (14, 14), (15, 15), (16, 16), (17, 17), (18, 18), (19, 19)] [(ch 1000), (ch 1003)] = some Zw.p2 := by kernel_rfl
noncomputable def Zw.t32 : List SE := ncL [Zw.sl 1001 200,
  ⟨.bin .lss, (ch 1001), (.int .i64 100), (.bool false)⟩,
  ⟨.bin .add, (ch 1001), (.int .i64 1), (ch 1002)⟩]
theorem Zw.i32 : Zw.d6.sub 8 [] (idl 8 Zw.d6.objs) (idA 2) (Zw.d6.st 8 []) = true := by kernel_rfl
theorem Zw.r32 : leafNext (fK (Tryz.Es Tryz.m3 (syOf Zw.t32)) 100000 100000 Zw.p2 (Zw.d6.st 8 []) 1) 8 Zw.d17 [(10, 10), (11, 11), (12, 12), (13, 23), (14, 13), (15, 14), (16, 21), (17, 15), (18, 16), (19, 17), (20, 18), (21, 19)] [(ch 1000), (ch 1002)] = some Zw.p2 := by kernel_rfl
noncomputable def Zw.t35 : List SE := ncL [Zw.sl 1001 200,
  Zw.sl 1001 100,
  ⟨.len, (ch 1000), (.int .i64 0), (ch 1002)⟩,
  ⟨.bin .lss, (ch 1001), (ch 1002), (.bool false)⟩,
  ⟨.bin .add, (ch 1001), (.int .i64 1), (ch 1003)⟩]
theorem Zw.i35 : Zw.d7.sub 8 [] (idl 8 Zw.d7.objs) (idA 2) (Zw.d7.st 8 []) = true := by kernel_rfl
theorem Zw.r35 : leafNext (fK (Tryz.Es Tryz.m3 (syOf Zw.t35)) 100000 100000 Zw.p2 (Zw.d7.st 8 []) 1) 8 Zw.d18 [(10, 10), (11, 11), (12, 12), (13, 24), (14, 13), (15, 14), (16, 22), (17, 15), (18, 16), (19, 17), (20, 18), (21, 19), (22, 20)] [(ch 1000), (ch 1003)] = some Zw.p2 := by kernel_rfl
noncomputable def Zw.t38 : List SE := ncL [Zw.sl 1001 200,
  Zw.sl 1001 100,
  ⟨.len, (ch 1000), (.int .i64 0), (ch 1002)⟩,
  ⟨.bin .lss, (ch 1001), (ch 1002), (.bool true)⟩,
  ⟨.idx 1, (ch 1000), (ch 1001), (.pointer (some ⟨8, 0, none⟩))⟩,
  ⟨.bin .add, (ch 1001), (.int .i64 1), (ch 1003)⟩]
theorem Zw.i38 : Zw.d8.sub 8 [[(.bool false)]] (idl 8 Zw.d8.objs) (idA 2) (Zw.d8.st 8 []) = true := by kernel_rfl
theorem Zw.r38 : leafNext (fK (Tryz.Es Tryz.m3 (syOf Zw.t38)) 100000 100000 Zw.p2 (Zw.d8.st 8 [[(.bool false)]]) 1) 8 Zw.d19 [(10, 10), (11, 11), (12, 12), (13, 25), (14, 13), (15, 14), (16, 23), (17, 15), (18, 16), (19, 17), (20, 18), (21, 19), (22, 20), (23, 21)] [(ch 1000), (ch 1003)] = some Zw.p2 := by kernel_rfl
noncomputable def Zw.t41 : List SE := ncL [Zw.sl 1001 200,
  Zw.sl 1001 100,
  ⟨.len, (ch 1000), (.int .i64 0), (ch 1002)⟩,
  ⟨.bin .lss, (ch 1001), (ch 1002), (.bool true)⟩,
  ⟨.idx 1, (ch 1000), (ch 1001), (.pointer (some ⟨8, 0, none⟩))⟩,
  ⟨.bin .add, (ch 1001), (.int .i64 1), (ch 1003)⟩]
theorem Zw.i41 : Zw.d9.sub 8 [[(.bool true)]] (idl 8 Zw.d9.objs) (idA 2) (Zw.d9.st 8 []) = true := by kernel_rfl
theorem Zw.r41 : leafNext (fK (Tryz.Es Tryz.m3 (syOf Zw.t41)) 100000 100000 Zw.p2 (Zw.d9.st 8 [[(.bool true)]]) 1) 8 Zw.d9 [(10, 10), (11, 11), (12, 12), (13, 13), (14, 14), (15, 15), (16, 16), (17, 17), (18, 18), (19, 19), (20, 20), (21, 21), (22, 22)] [(ch 1000), (ch 1003)] = some Zw.p2 := by kernel_rfl
noncomputable def Zw.t44 : List SE := ncL [Zw.sl 1001 200,
  ⟨.bin .lss, (ch 1001), (.int .i64 100), (.bool false)⟩,
  ⟨.bin .add, (ch 1001), (.int .i64 1), (ch 1002)⟩]
theorem Zw.i44 : Zw.d9.sub 8 [] (idl 8 Zw.d9.objs) (idA 2) (Zw.d9.st 8 []) = true := by kernel_rfl
theorem Zw.r44 : leafNext (fK (Tryz.Es Tryz.m3 (syOf Zw.t44)) 100000 100000 Zw.p2 (Zw.d9.st 8 []) 1) 8 Zw.d20 [(10, 10), (11, 11), (12, 12), (13, 26), (14, 13), (15, 14), (16, 24), (17, 15), (18, 16), (19, 17), (20, 18), (21, 19), (22, 20), (23, 21), (24, 22)] [(ch 1000), (ch 1002)] = some Zw.p2 := by kernel_rfl
noncomputable def Zw.t47 : List SE := ncL [Zw.sl 1001 200,
  Zw.sl 1001 100,
  ⟨.len, (ch 1000), (.int .i64 0), (ch 1002)⟩,
  ⟨.bin .lss, (ch 1001), (ch 1002), (.bool false)⟩,
  ⟨.bin .add, (ch 1001), (.int .i64 1), (ch 1003)⟩]
theorem Zw.i47 : Zw.d10.sub 8 [] (idl 8 Zw.d10.objs) (idA 2) (Zw.d10.st 8 []) = true := by kernel_rfl
theorem Zw.r47 : leafNext (fK (Tryz.Es Tryz.m3 (syOf Zw.t47)) 100000 100000 Zw.p2 (Zw.d10.st 8 []) 1) 8 Zw.d21 [(10, 10), (11, 11), (12, 12), (13, 27), (14, 13), (15, 14), (16, 25), (17, 15), (18, 16), (19, 17), (20, 18), (21, 19), (22, 20), (23, 21), (24, 22), (25, 23)] [(ch 1000), (ch 1003)] = some Zw.p2 := by kernel_rfl
noncomputable def Zw.t50 : List SE := ncL [Zw.sl 1001 200,
  Zw.sl 1001 100,
  ⟨.len, (ch 1000), (.int .i64 0), (ch 1002)⟩,
  ⟨.bin .lss, (ch 1001), (ch 1002), (.bool true)⟩,
  ⟨.idx 1, (ch 1000), (ch 1001), (.pointer (some ⟨8, 0, none⟩))⟩,
  ⟨.bin .add, (ch 1001), (.int .i64 1), (ch 1003)⟩]
theorem Zw.i50 : Zw.d11.sub 8 [[(.bool false)]] (idl 8 Zw.d11.objs) (idA 2) (Zw.d11.st 8 []) = true := by kernel_rfl
theorem Zw.r50 : leafNext (fK (Tryz.Es Tryz.m3 (syOf Zw.t50)) 100000 100000 Zw.p2 (Zw.d11.st 8 [[(.bool false)]]) 1) 8 Zw.d22 [(10, 10), (11, 11), (12, 12), (13, 28), (14, 13), (15, 14), (16, 26), (17, 15), (18, 16), (19, 17), (20, 18), (21, 19), (22, 20), (23, 21), (24, 22), (25, 23), (26, 24)] [(ch 1000), (ch 1003)] = some Zw.p2 := by kernel_rfl
noncomputable def Zw.t53 : List SE := ncL [Zw.sl 1001 200,
  Zw.sl 1001 100,
  ⟨.len, (ch 1000), (.int .i64 0), (ch 1002)⟩,
  ⟨.bin .lss, (ch 1001), (ch 1002), (.bool true)⟩,
  ⟨.idx 1, (ch 1000), (ch 1001), (.pointer (some ⟨8, 0, none⟩))⟩,
  ⟨.bin .add, (ch 1001), (.int .i64 1), (ch 1003)⟩]
theorem Zw.i53 : Zw.d12.sub 8 [[(.bool true)]] (idl 8 Zw.d12.objs) (idA 2) (Zw.d12.st 8 []) = true := by kernel_rfl
theorem Zw.r53 : leafNext (fK (Tryz.Es Tryz.m3 (syOf Zw.t53)) 100000 100000 Zw.p2 (Zw.d12.st 8 [[(.bool true)]]) 1) 8 Zw.d12 [(10, 10), (11, 11), (12, 12), (13, 13), (14, 14), (15, 15), (16, 16), (17, 17), (18, 18), (19, 19), (20, 20), (21, 21), (22, 22), (23, 23), (24, 24), (25, 25)] [(ch 1000), (ch 1003)] = some Zw.p2 := by kernel_rfl
noncomputable def Zw.t56 : List SE := ncL [Zw.sl 1001 200,
  ⟨.bin .lss, (ch 1001), (.int .i64 100), (.bool false)⟩,
  ⟨.bin .add, (ch 1001), (.int .i64 1), (ch 1002)⟩]
theorem Zw.i56 : Zw.d12.sub 8 [] (idl 8 Zw.d12.objs) (idA 2) (Zw.d12.st 8 []) = true := by kernel_rfl
theorem Zw.r56 : leafNext (fK (Tryz.Es Tryz.m3 (syOf Zw.t56)) 100000 100000 Zw.p2 (Zw.d12.st 8 []) 1) 8 Zw.d23 [(10, 10), (11, 11), (12, 12), (13, 29), (14, 13), (15, 14), (16, 27), (17, 15), (18, 16), (19, 17), (20, 18), (21, 19), (22, 20), (23, 21), (24, 22), (25, 23), (26, 24), (27, 25)] [(ch 1000), (ch 1002)] = some Zw.p2 := by kernel_rfl
noncomputable def Zw.t59 : List SE := ncL [Zw.sl 1001 200,
  Zw.sl 1001 100,
  ⟨.len, (ch 1000), (.int .i64 0), (ch 1002)⟩,
  ⟨.bin .lss, (ch 1001), (ch 1002), (.bool true)⟩,
  ⟨.idx 1, (ch 1000), (ch 1001), (.pointer (some ⟨8, 0, none⟩))⟩,
  ⟨.bin .add, (ch 1001), (.int .i64 1), (ch 1003)⟩]
theorem Zw.i59 : Zw.d14.sub 8 [[(.bool false)]] (idl 8 Zw.d14.objs) (idA 2) (Zw.d14.st 8 []) = true := by kernel_rfl
theorem Zw.r59 : leafNext (fK (Tryz.Es Tryz.m3 (syOf Zw.t59)) 100000 100000 Zw.p2 (Zw.d14.st 8 [[(.bool false)]]) 1) 8 Zw.d24 [(10, 10), (11, 11), (12, 12), (13, 23), (14, 14), (15, 15), (16, 16), (17, 21), (18, 17), (19, 18)] [(ch 1000), (ch 1003)] = some Zw.p2 := by kernel_rfl
noncomputable def Zw.t62 : List SE := ncL [Zw.sl 1001 200,
  Zw.sl 1001 100,
  ⟨.len, (ch 1000), (.int .i64 0), (ch 1002)⟩,
  ⟨.bin .lss, (ch 1001), (ch 1002), (.bool true)⟩,
  ⟨.idx 1, (ch 1000), (ch 1001), (.pointer (some ⟨8, 0, none⟩))⟩,
  ⟨.bin .add, (ch 1001), (.int .i64 1), (ch 1003)⟩]
theorem Zw.i62 : Zw.d15.sub 8 [[(.bool true)]] (idl 8 Zw.d15.objs) (idA 2) (Zw.d15.st 8 []) = true := by kernel_rfl
theorem Zw.r62 : leafNext (fK (Tryz.Es Tryz.m3 (syOf Zw.t62)) 100000 100000 Zw.p2 (Zw.d15.st 8 [[(.bool true)]]) 1) 8 Zw.d15 [(10, 10), (11, 11), (12, 12), (13, 13), (14, 14), (15, 15), (16, 16), (17, 17), (18, 18), (19, 19)] [(ch 1000), (ch 1003)] = some Zw.p2 := by kernel_rfl
noncomputable def Zw.t65 : List SE := ncL [Zw.sl 1001 200,
  ⟨.bin .lss, (ch 1001), (.int .i64 100), (.bool false)⟩,
  ⟨.bin .add, (ch 1001), (.int .i64 1), (ch 1002)⟩]
theorem Zw.i65 : Zw.d15.sub 8 [] (idl 8 Zw.d15.objs) (idA 2) (Zw.d15.st 8 []) = true := by kernel_rfl
theorem Zw.r65 : leafNext (fK (Tryz.Es Tryz.m3 (syOf Zw.t65)) 100000 100000 Zw.p2 (Zw.d15.st 8 []) 1) 8 Zw.d25 [(10, 10), (11, 11), (12, 12), (13, 24), (14, 14), (15, 15), (16, 16), (17, 22), (18, 17), (19, 18), (20, 19)] [(ch 1000), (ch 1002)] = some Zw.p2 := by kernel_rfl
noncomputable def Zw.t68 : List SE := ncL [Zw.sl 1001 200,
  Zw.sl 1001 100,
  ⟨.len, (ch 1000), (.int .i64 0), (ch 1002)⟩,
  ⟨.bin .lss, (ch 1001), (ch 1002), (.bool false)⟩,
  ⟨.bin .add, (ch 1001), (.int .i64 1), (ch 1003)⟩]
theorem Zw.i68 : Zw.d16.sub 8 [] (idl 8 Zw.d16.objs) (idA 2) (Zw.d16.st 8 []) = true := by kernel_rfl
theorem Zw.r68 : leafNext (fK (Tryz.Es Tryz.m3 (syOf Zw.t68)) 100000 100000 Zw.p2 (Zw.d16.st 8 []) 1) 8 Zw.d26 [(10, 10), (11, 11), (12, 12), (13, 25), (14, 14), (15, 15), (16, 16), (17, 23), (18, 17), (19, 18), (20, 19), (21, 20)] [(ch 1000), (ch 1003)] = some Zw.p2 := by kernel_rfl
noncomputable def Zw.t71 : List SE := ncL [Zw.sl 1001 200,
  Zw.sl 1001 100,
  ⟨.len, (ch 1000), (.int .i64 0), (ch 1002)⟩,
  ⟨.bin .lss, (ch 1001), (ch 1002), (.bool true)⟩,
  ⟨.idx 1, (ch 1000), (ch 1001), (.pointer (some ⟨8, 0, none⟩))⟩,
  ⟨.bin .add, (ch 1001), (.int .i64 1), (ch 1003)⟩]
theorem Zw.i71 : Zw.d17.sub 8 [[(.bool false)]] (idl 8 Zw.d17.objs) (idA 2) (Zw.d17.st 8 []) = true := by kernel_rfl
theorem Zw.r71 : leafNext (fK (Tryz.Es Tryz.m3 (syOf Zw.t71)) 100000 100000 Zw.p2 (Zw.d17.st 8 [[(.bool false)]]) 1) 8 Zw.d27 [(10, 10), (11, 11), (12, 12), (13, 26), (14, 14), (15, 15), (16, 16), (17, 24), (18, 17), (19, 18), (20, 19), (21, 20), (22, 21)] [(ch 1000), (ch 1003)] = some Zw.p2 := by kernel_rfl
noncomputable def Zw.t74 : List SE := ncL [Zw.sl 1001 200,
  Zw.sl 1001 100,
  ⟨.len, (ch 1000), (.int .i64 0), (ch 1002)⟩,
  ⟨.bin .lss, (ch 1001), (ch 1002), (.bool true)⟩,
  ⟨.idx 1, (ch 1000), (ch 1001), (.pointer (some ⟨8, 0, none⟩))⟩,
  ⟨.bin .add, (ch 1001), (.int .i64 1), (ch 1003)⟩]
theorem Zw.i74 : Zw.d18.sub 8 [[(.bool true)]] (idl 8 Zw.d18.objs) (idA 2) (Zw.d18.st 8 []) = true := by kernel_rfl
theorem Zw.r74 : leafNext (fK (Tryz.Es Tryz.m3 (syOf Zw.t74)) 100000 100000 Zw.p2 (Zw.d18.st 8 [[(.bool true)]]) 1) 8 Zw.d18 [(10, 10), (11, 11), (12, 12), (13, 13), (14, 14), (15, 15), (16, 16), (17, 17), (18, 18), (19, 19), (20, 20), (21, 21), (22, 22)] [(ch 1000), (ch 1003)] = some Zw.p2 := by kernel_rfl
noncomputable def Zw.t77 : List SE := ncL [Zw.sl 1001 200,
  ⟨.bin .lss, (ch 1001), (.int .i64 100), (.bool false)⟩,
  ⟨.bin .add, (ch 1001), (.int .i64 1), (ch 1002)⟩]
theorem Zw.i77 : Zw.d18.sub 8 [] (idl 8 Zw.d18.objs) (idA 2) (Zw.d18.st 8 []) = true := by kernel_rfl
theorem Zw.r77 : leafNext (fK (Tryz.Es Tryz.m3 (syOf Zw.t77)) 100000 100000 Zw.p2 (Zw.d18.st 8 []) 1) 8 Zw.d28 [(10, 10), (11, 11), (12, 12), (13, 27), (14, 14), (15, 15), (16, 16), (17, 25), (18, 17), (19, 18), (20, 19), (21, 20), (22, 21), (23, 22)] [(ch 1000), (ch 1002)] = some Zw.p2 := by kernel_rfl
noncomputable def Zw.t80 : List SE := ncL [Zw.sl 1001 200,
  Zw.sl 1001 100,
  ⟨.len, (ch 1000), (.int .i64 0), (ch 1002)⟩,
  ⟨.bin .lss, (ch 1001), (ch 1002), (.bool false)⟩,
  ⟨.bin .add, (ch 1001), (.int .i64 1), (ch 1003)⟩]
theorem Zw.i80 : Zw.d19.sub 8 [] (idl 8 Zw.d19.objs) (idA 2) (Zw.d19.st 8 []) = true := by kernel_rfl
theorem Zw.r80 : leafNext (fK (Tryz.Es Tryz.m3 (syOf Zw.t80)) 100000 100000 Zw.p2 (Zw.d19.st 8 []) 1) 8 Zw.d29 [(10, 10), (11, 11), (12, 12), (13, 28), (14, 14), (15, 15), (16, 16), (17, 26), (18, 17), (19, 18), (20, 19), (21, 20), (22, 21), (23, 22), (24, 23)] [(ch 1000), (ch 1003)] = some Zw.p2 := by kernel_rfl
noncomputable def Zw.t83 : List SE := ncL [Zw.sl 1001 200,
  Zw.sl 1001 100,
  ⟨.len, (ch 1000), (.int .i64 0), (ch 1002)⟩,
  ⟨.bin .lss, (ch 1001), (ch 1002), (.bool true)⟩,
  ⟨.idx 1, (ch 1000), (ch 1001), (.pointer (some ⟨8, 0, none⟩))⟩,
  ⟨.bin .add, (ch 1001), (.int .i64 1), (ch 1003)⟩]
theorem Zw.i83 : Zw.d20.sub 8 [[(.bool false)]] (idl 8 Zw.d20.objs) (idA 2) (Zw.d20.st 8 []) = true := by kernel_rfl
theorem Zw.r83 : leafNext (fK (Tryz.Es Tryz.m3 (syOf Zw.t83)) 100000 100000 Zw.p2 (Zw.d20.st 8 [[(.bool false)]]) 1) 8 Zw.d30 [(10, 10), (11, 11), (12, 12), (13, 29), (14, 14), (15, 15), (16, 16), (17, 27), (18, 17), (19, 18), (20, 19), (21, 20), (22, 21), (23, 22), (24, 23), (25, 24)] [(ch 1000), (ch 1003)] = some Zw.p2 := by kernel_rfl
noncomputable def Zw.t86 : List SE := ncL [Zw.sl 1001 200,
  Zw.sl 1001 100,
  ⟨.len, (ch 1000), (.int .i64 0), (ch 1002)⟩,
  ⟨.bin .lss, (ch 1001), (ch 1002), (.bool true)⟩,
  ⟨.idx 1, (ch 1000), (ch 1001), (.pointer (some ⟨8, 0, none⟩))⟩,
  ⟨.bin .add, (ch 1001), (.int .i64 1), (ch 1003)⟩]
theorem Zw.i86 : Zw.d21.sub 8 [[(.bool true)]] (idl 8 Zw.d21.objs) (idA 2) (Zw.d21.st 8 []) = true := by kernel_rfl
theorem Zw.r86 : leafNext (fK (Tryz.Es Tryz.m3 (syOf Zw.t86)) 100000 100000 Zw.p2 (Zw.d21.st 8 [[(.bool true)]]) 1) 8 Zw.d21 [(10, 10), (11, 11), (12, 12), (13, 13), (14, 14), (15, 15), (16, 16), (17, 17), (18, 18), (19, 19), (20, 20), (21, 21), (22, 22), (23, 23), (24, 24), (25, 25)] [(ch 1000), (ch 1003)] = some Zw.p2 := by kernel_rfl
noncomputable def Zw.t89 : List SE := ncL [Zw.sl 1001 200,
  ⟨.bin .lss, (ch 1001), (.int .i64 100), (.bool false)⟩,
  ⟨.bin .add, (ch 1001), (.int .i64 1), (ch 1002)⟩]
theorem Zw.i89 : Zw.d21.sub 8 [] (idl 8 Zw.d21.objs) (idA 2) (Zw.d21.st 8 []) = true := by kernel_rfl
theorem Zw.r89 : leafNext (fK (Tryz.Es Tryz.m3 (syOf Zw.t89)) 100000 100000 Zw.p2 (Zw.d21.st 8 []) 1) 8 Zw.d31 [(10, 10), (11, 11), (12, 12), (13, 30), (14, 14), (15, 15), (16, 16), (17, 28), (18, 17), (19, 18), (20, 19), (21, 20), (22, 21), (23, 22), (24, 23), (25, 24), (26, 25)] [(ch 1000), (ch 1002)] = some Zw.p2 := by kernel_rfl
noncomputable def Zw.t92 : List SE := ncL [Zw.sl 1001 200,
  Zw.sl 1001 100,
  ⟨.len, (ch 1000), (.int .i64 0), (ch 1002)⟩,
  ⟨.bin .lss, (ch 1001), (ch 1002), (.bool false)⟩,
  ⟨.bin .add, (ch 1001), (.int .i64 1), (ch 1003)⟩]
theorem Zw.i92 : Zw.d22.sub 8 [] (idl 8 Zw.d22.objs) (idA 2) (Zw.d22.st 8 []) = true := by kernel_rfl
theorem Zw.r92 : leafNext (fK (Tryz.Es Tryz.m3 (syOf Zw.t92)) 100000 100000 Zw.p2 (Zw.d22.st 8 []) 1) 8 Zw.d32 [(10, 10), (11, 11), (12, 12), (13, 31), (14, 14), (15, 15), (16, 16), (17, 29), (18, 17), (19, 18), (20, 19), (21, 20), (22, 21), (23, 22), (24, 23), (25, 24), (26, 25), (27, 26)] [(ch 1000), (ch 1003)] = some Zw.p2 := by kernel_rfl
noncomputable def Zw.t95 : List SE := ncL [Zw.sl 1001 200,
  Zw.sl 1001 100,
  ⟨.len, (ch 1000), (.int .i64 0), (ch 1002)⟩,
  ⟨.bin .lss, (ch 1001), (ch 1002), (.bool true)⟩,
  ⟨.idx 1, (ch 1000), (ch 1001), (.pointer (some ⟨8, 0, none⟩))⟩,
  ⟨.bin .add, (ch 1001), (.int .i64 1), (ch 1003)⟩]
theorem Zw.i95 : Zw.d23.sub 8 [[(.bool false)]] (idl 8 Zw.d23.objs) (idA 2) (Zw.d23.st 8 []) = true := by kernel_rfl
theorem Zw.r95 : leafNext (fK (Tryz.Es Tryz.m3 (syOf Zw.t95)) 100000 100000 Zw.p2 (Zw.d23.st 8 [[(.bool false)]]) 1) 8 Zw.d33 [(10, 10), (11, 11), (12, 12), (13, 32), (14, 14), (15, 15), (16, 16), (17, 30), (18, 17), (19, 18), (20, 19), (21, 20), (22, 21), (23, 22), (24, 23), (25, 24), (26, 25), (27, 26), (28, 27)] [(ch 1000), (ch 1003)] = some Zw.p2 := by kernel_rfl
noncomputable def Zw.t98 : List SE := ncL [Zw.sl 1001 200]
theorem Zw.i98 : Zw.d24.sub 8 [] (idl 8 Zw.d24.objs) (idA 2) (Zw.d24.st 8 []) = true := by kernel_rfl
theorem Zw.r98 : leafFin (Tryz.Es Tryz.m3 (syOf Zw.t98)) Tryz.f6 (fK (Tryz.Es Tryz.m3 (syOf Zw.t98)) 100000 100000 Zw.p2 (Zw.d24.st 8 []) 1) = true := by kernel_rfl
noncomputable def Zw.t101 : List SE := ncL [Zw.sl 1001 200,
  Zw.sl 1001 100,
  ⟨.len, (ch 1000), (.int .i64 0), (ch 1002)⟩,
  ⟨.bin .lss, (ch 1001), (ch 1002), (.bool false)⟩,
  ⟨.bin .add, (ch 1001), (.int .i64 1), (ch 1003)⟩]
theorem Zw.i101 : Zw.d25.sub 8 [] (idl 8 Zw.d25.objs) (idA 2) (Zw.d25.st 8 []) = true := by kernel_rfl
theorem Zw.r101 : leafNext (fK (Tryz.Es Tryz.m3 (syOf Zw.t101)) 100000 100000 Zw.p2 (Zw.d25.st 8 []) 1) 8 Zw.d34 [(10, 10), (11, 11), (12, 12), (13, 25), (14, 14), (15, 15), (16, 16), (17, 17), (18, 23), (19, 18), (20, 19), (21, 20)] [(ch 1000), (ch 1003)] = some Zw.p2 := by kernel_rfl
noncomputable def Zw.t104 : List SE := ncL [Zw.sl 1001 200,
  Zw.sl 1001 100,
  ⟨.len, (ch 1000), (.int .i64 0), (ch 1002)⟩,
  ⟨.bin .lss, (ch 1001), (ch 1002), (.bool true)⟩,
  ⟨.idx 1, (ch 1000), (ch 1001), (.pointer (some ⟨8, 0, none⟩))⟩,
  ⟨.bin .add, (ch 1001), (.int .i64 1), (ch 1003)⟩]
theorem Zw.i104 : Zw.d26.sub 8 [[(.bool false)]] (idl 8 Zw.d26.objs) (idA 2) (Zw.d26.st 8 []) = true := by kernel_rfl
theorem Zw.r104 : leafNext (fK (Tryz.Es Tryz.m3 (syOf Zw.t104)) 100000 100000 Zw.p2 (Zw.d26.st 8 [[(.bool false)]]) 1) 8 Zw.d35 [(10, 10), (11, 11), (12, 12), (13, 26), (14, 14), (15, 15), (16, 16), (17, 17), (18, 24), (19, 18), (20, 19), (21, 20), (22, 21)] [(ch 1000), (ch 1003)] = some Zw.p2 := by kernel_rfl
noncomputable def Zw.t107 : List SE := ncL [Zw.sl 1001 200,
  Zw.sl 1001 100,
  ⟨.len, (ch 1000), (.int .i64 0), (ch 1002)⟩,
  ⟨.bin .lss, (ch 1001), (ch 1002), (.bool true)⟩,
  ⟨.idx 1, (ch 1000), (ch 1001), (.pointer (some ⟨8, 0, none⟩))⟩,
  ⟨.bin .add, (ch 1001), (.int .i64 1), (ch 1003)⟩]
theorem Zw.i107 : Zw.d27.sub 8 [[(.bool true)]] (idl 8 Zw.d27.objs) (idA 2) (Zw.d27.st 8 []) = true := by kernel_rfl
theorem Zw.r107 : leafNext (fK (Tryz.Es Tryz.m3 (syOf Zw.t107)) 100000 100000 Zw.p2 (Zw.d27.st 8 [[(.bool true)]]) 1) 8 Zw.d27 [(10, 10), (11, 11), (12, 12), (13, 13), (14, 14), (15, 15), (16, 16), (17, 17), (18, 18), (19, 19), (20, 20), (21, 21), (22, 22)] [(ch 1000), (ch 1003)] = some Zw.p2 := by kernel_rfl
noncomputable def Zw.t110 : List SE := ncL [Zw.sl 1001 200,
  ⟨.bin .lss, (ch 1001), (.int .i64 100), (.bool false)⟩,
  ⟨.bin .add, (ch 1001), (.int .i64 1), (ch 1002)⟩]
theorem Zw.i110 : Zw.d27.sub 8 [] (idl 8 Zw.d27.objs) (idA 2) (Zw.d27.st 8 []) = true := by kernel_rfl
theorem Zw.r110 : leafNext (fK (Tryz.Es Tryz.m3 (syOf Zw.t110)) 100000 100000 Zw.p2 (Zw.d27.st 8 []) 1) 8 Zw.d36 [(10, 10), (11, 11), (12, 12), (13, 27), (14, 14), (15, 15), (16, 16), (17, 17), (18, 25), (19, 18), (20, 19), (21, 20), (22, 21), (23, 22)] [(ch 1000), (ch 1002)] = some Zw.p2 := by kernel_rfl
noncomputable def Zw.t113 : List SE := ncL [Zw.sl 1001 200,
  Zw.sl 1001 100,
  ⟨.len, (ch 1000), (.int .i64 0), (ch 1002)⟩,
  ⟨.bin .lss, (ch 1001), (ch 1002), (.bool false)⟩,
  ⟨.bin .add, (ch 1001), (.int .i64 1), (ch 1003)⟩]
theorem Zw.i113 : Zw.d28.sub 8 [] (idl 8 Zw.d28.objs) (idA 2) (Zw.d28.st 8 []) = true := by kernel_rfl
theorem Zw.r113 : leafNext (fK (Tryz.Es Tryz.m3 (syOf Zw.t113)) 100000 100000 Zw.p2 (Zw.d28.st 8 []) 1) 8 Zw.d37 [(10, 10), (11, 11), (12, 12), (13, 28), (14, 14), (15, 15), (16, 16), (17, 17), (18, 26), (19, 18), (20, 19), (21, 20), (22, 21), (23, 22), (24, 23)] [(ch 1000), (ch 1003)] = some Zw.p2 := by kernel_rfl
noncomputable def Zw.t116 : List SE := ncL [Zw.sl 1001 200,
  Zw.sl 1001 100,
  ⟨.len, (ch 1000), (.int .i64 0), (ch 1002)⟩,
  ⟨.bin .lss, (ch 1001), (ch 1002), (.bool true)⟩,
  ⟨.idx 1, (ch 1000), (ch 1001), (.pointer (some ⟨8, 0, none⟩))⟩,
  ⟨.bin .add, (ch 1001), (.int .i64 1), (ch 1003)⟩]
theorem Zw.i116 : Zw.d29.sub 8 [[(.bool false)]] (idl 8 Zw.d29.objs) (idA 2) (Zw.d29.st 8 []) = true := by kernel_rfl
theorem Zw.r116 : leafNext (fK (Tryz.Es Tryz.m3 (syOf Zw.t116)) 100000 100000 Zw.p2 (Zw.d29.st 8 [[(.bool false)]]) 1) 8 Zw.d38 [(10, 10), (11, 11), (12, 12), (13, 29), (14, 14), (15, 15), (16, 16), (17, 17), (18, 27), (19, 18), (20, 19), (21, 20), (22, 21), (23, 22), (24, 23), (25, 24)] [(ch 1000), (ch 1003)] = some Zw.p2 := by kernel_rfl
noncomputable def Zw.t119 : List SE := ncL [Zw.sl 1001 200,
  Zw.sl 1001 100,
  ⟨.len, (ch 1000), (.int .i64 0), (ch 1002)⟩,
  ⟨.bin .lss, (ch 1001), (ch 1002), (.bool true)⟩,
  ⟨.idx 1, (ch 1000), (ch 1001), (.pointer (some ⟨8, 0, none⟩))⟩,
  ⟨.bin .add, (ch 1001), (.int .i64 1), (ch 1003)⟩]
theorem Zw.i119 : Zw.d30.sub 8 [[(.bool true)]] (idl 8 Zw.d30.objs) (idA 2) (Zw.d30.st 8 []) = true := by kernel_rfl
theorem Zw.r119 : leafNext (fK (Tryz.Es Tryz.m3 (syOf Zw.t119)) 100000 100000 Zw.p2 (Zw.d30.st 8 [[(.bool true)]]) 1) 8 Zw.d30 [(10, 10), (11, 11), (12, 12), (13, 13), (14, 14), (15, 15), (16, 16), (17, 17), (18, 18), (19, 19), (20, 20), (21, 21), (22, 22), (23, 23), (24, 24), (25, 25)] [(ch 1000), (ch 1003)] = some Zw.p2 := by kernel_rfl
noncomputable def Zw.t122 : List SE := ncL [Zw.sl 1001 200,
  ⟨.bin .lss, (ch 1001), (.int .i64 100), (.bool false)⟩,
  ⟨.bin .add, (ch 1001), (.int .i64 1), (ch 1002)⟩]
theorem Zw.i122 : Zw.d30.sub 8 [] (idl 8 Zw.d30.objs) (idA 2) (Zw.d30.st 8 []) = true := by kernel_rfl
theorem Zw.r122 : leafNext (fK (Tryz.Es Tryz.m3 (syOf Zw.t122)) 100000 100000 Zw.p2 (Zw.d30.st 8 []) 1) 8 Zw.d39 [(10, 10), (11, 11), (12, 12), (13, 30), (14, 14), (15, 15), (16, 16), (17, 17), (18, 28), (19, 18), (20, 19), (21, 20), (22, 21), (23, 22), (24, 23), (25, 24), (26, 25)] [(ch 1000), (ch 1002)] = some Zw.p2 := by kernel_rfl
noncomputable def Zw.t125 : List SE := ncL [Zw.sl 1001 200,
  Zw.sl 1001 100,
  ⟨.len, (ch 1000), (.int .i64 0), (ch 1002)⟩,
  ⟨.bin .lss, (ch 1001), (ch 1002), (.bool false)⟩,
  ⟨.bin .add, (ch 1001), (.int .i64 1), (ch 1003)⟩]
theorem Zw.i125 : Zw.d31.sub 8 [] (idl 8 Zw.d31.objs) (idA 2) (Zw.d31.st 8 []) = true := by kernel_rfl
theorem Zw.r125 : leafNext (fK (Tryz.Es Tryz.m3 (syOf Zw.t125)) 100000 100000 Zw.p2 (Zw.d31.st 8 []) 1) 8 Zw.d40 [(10, 10), (11, 11), (12, 12), (13, 31), (14, 14), (15, 15), (16, 16), (17, 17), (18, 29), (19, 18), (20, 19), (21, 20), (22, 21), (23, 22), (24, 23), (25, 24), (26, 25), (27, 26)] [(ch 1000), (ch 1003)] = some Zw.p2 := by kernel_rfl
noncomputable def Zw.t128 : List SE := ncL [Zw.sl 1001 200,
  Zw.sl 1001 100,
  ⟨.len, (ch 1000), (.int .i64 0), (ch 1002)⟩,
  ⟨.bin .lss, (ch 1001), (ch 1002), (.bool true)⟩,
  ⟨.idx 1, (ch 1000), (ch 1001), (.pointer (some ⟨8, 0, none⟩))⟩,
  ⟨.bin .add, (ch 1001), (.int .i64 1), (ch 1003)⟩]
theorem Zw.i128 : Zw.d32.sub 8 [[(.bool false)]] (idl 8 Zw.d32.objs) (idA 2) (Zw.d32.st 8 []) = true := by kernel_rfl
theorem Zw.r128 : leafNext (fK (Tryz.Es Tryz.m3 (syOf Zw.t128)) 100000 100000 Zw.p2 (Zw.d32.st 8 [[(.bool false)]]) 1) 8 Zw.d41 [(10, 10), (11, 11), (12, 12), (13, 32), (14, 14), (15, 15), (16, 16), (17, 17), (18, 30), (19, 18), (20, 19), (21, 20), (22, 21), (23, 22), (24, 23), (25, 24), (26, 25), (27, 26), (28, 27)] [(ch 1000), (ch 1003)] = some Zw.p2 := by kernel_rfl
noncomputable def Zw.t131 : List SE := ncL [Zw.sl 1001 200,
  Zw.sl 1001 100,
  ⟨.len, (ch 1000), (.int .i64 0), (ch 1002)⟩,
  ⟨.bin .lss, (ch 1001), (ch 1002), (.bool true)⟩,
  ⟨.idx 1, (ch 1000), (ch 1001), (.pointer (some ⟨8, 0, none⟩))⟩,
  ⟨.bin .add, (ch 1001), (.int .i64 1), (ch 1003)⟩]
theorem Zw.i131 : Zw.d33.sub 8 [[(.bool true)]] (idl 8 Zw.d33.objs) (idA 2) (Zw.d33.st 8 []) = true := by kernel_rfl
theorem Zw.r131 : leafNext (fK (Tryz.Es Tryz.m3 (syOf Zw.t131)) 100000 100000 Zw.p2 (Zw.d33.st 8 [[(.bool true)]]) 1) 8 Zw.d33 [(10, 10), (11, 11), (12, 12), (13, 13), (14, 14), (15, 15), (16, 16), (17, 17), (18, 18), (19, 19), (20, 20), (21, 21), (22, 22), (23, 23), (24, 24), (25, 25), (26, 26), (27, 27), (28, 28)] [(ch 1000), (ch 1003)] = some Zw.p2 := by kernel_rfl
noncomputable def Zw.t134 : List SE := ncL [Zw.sl 1001 200,
  ⟨.bin .lss, (ch 1001), (.int .i64 100), (.bool false)⟩,
  ⟨.bin .add, (ch 1001), (.int .i64 1), (ch 1002)⟩]
theorem Zw.i134 : Zw.d33.sub 8 [] (idl 8 Zw.d33.objs) (idA 2) (Zw.d33.st 8 []) = true := by kernel_rfl
theorem Zw.r134 : leafNext (fK (Tryz.Es Tryz.m3 (syOf Zw.t134)) 100000 100000 Zw.p2 (Zw.d33.st 8 []) 1) 8 Zw.d42 [(10, 10), (11, 11), (12, 12), (13, 33), (14, 14), (15, 15), (16, 16), (17, 17), (18, 31), (19, 18), (20, 19), (21, 20), (22, 21), (23, 22), (24, 23), (25, 24), (26, 25), (27, 26), (28, 27), (29, 28)] [(ch 1000), (ch 1002)] = some Zw.p2 := by kernel_rfl
noncomputable def Zw.t137 : List SE := ncL [Zw.sl 1001 200,
  Zw.sl 1001 100,
  ⟨.len, (ch 1000), (.int .i64 0), (ch 1002)⟩,
  ⟨.bin .lss, (ch 1001), (ch 1002), (.bool true)⟩,
  ⟨.idx 1, (ch 1000), (ch 1001), (.pointer (some ⟨8, 0, none⟩))⟩,
  ⟨.bin .add, (ch 1001), (.int .i64 1), (ch 1003)⟩]
theorem Zw.i137 : Zw.d35.sub 8 [[(.bool false)]] (idl 8 Zw.d35.objs) (idA 2) (Zw.d35.st 8 []) = true := by kernel_rfl
theorem Zw.r137 : leafNext (fK (Tryz.Es Tryz.m3 (syOf Zw.t137)) 100000 100000 Zw.p2 (Zw.d35.st 8 [[(.bool false)]]) 1) 8 Zw.d43 [(10, 10), (11, 11), (12, 12), (13, 28), (14, 14), (15, 15), (16, 16), (17, 17), (18, 18), (19, 26), (20, 19), (21, 20), (22, 21), (23, 22)] [(ch 1000), (ch 1003)] = some Zw.p2 := by kernel_rfl
noncomputable def Zw.t140 : List SE := ncL [Zw.sl 1001 200,
  Zw.sl 1001 100,
  ⟨.len, (ch 1000), (.int .i64 0), (ch 1002)⟩,
  ⟨.bin .lss, (ch 1001), (ch 1002), (.bool true)⟩,
  ⟨.idx 1, (ch 1000), (ch 1001), (.pointer (some ⟨8, 0, none⟩))⟩,
  ⟨.bin .add, (ch 1001), (.int .i64 1), (ch 1003)⟩]
theorem Zw.i140 : Zw.d36.sub 8 [[(.bool true)]] (idl 8 Zw.d36.objs) (idA 2) (Zw.d36.st 8 []) = true := by kernel_rfl
theorem Zw.r140 : leafNext (fK (Tryz.Es Tryz.m3 (syOf Zw.t140)) 100000 100000 Zw.p2 (Zw.d36.st 8 [[(.bool true)]]) 1) 8 Zw.d36 [(10, 10), (11, 11), (12, 12), (13, 13), (14, 14), (15, 15), (16, 16), (17, 17), (18, 18), (19, 19), (20, 20), (21, 21), (22, 22), (23, 23)] [(ch 1000), (ch 1003)] = some Zw.p2 := by kernel_rfl
noncomputable def Zw.t143 : List SE := ncL [Zw.sl 1001 200,
  ⟨.bin .lss, (ch 1001), (.int .i64 100), (.bool false)⟩,
  ⟨.bin .add, (ch 1001), (.int .i64 1), (ch 1002)⟩]
theorem Zw.i143 : Zw.d36.sub 8 [] (idl 8 Zw.d36.objs) (idA 2) (Zw.d36.st 8 []) = true := by kernel_rfl
theorem Zw.r143 : leafNext (fK (Tryz.Es Tryz.m3 (syOf Zw.t143)) 100000 100000 Zw.p2 (Zw.d36.st 8 []) 1) 8 Zw.d44 [(10, 10), (11, 11), (12, 12), (13, 29), (14, 14), (15, 15), (16, 16), (17, 17), (18, 18), (19, 27), (20, 19), (21, 20), (22, 21), (23, 22), (24, 23)] [(ch 1000), (ch 1002)] = some Zw.p2 := by kernel_rfl
noncomputable def Zw.t146 : List SE := ncL [Zw.sl 1001 200,
  Zw.sl 1001 100,
  ⟨.len, (ch 1000), (.int .i64 0), (ch 1002)⟩,
  ⟨.bin .lss, (ch 1001), (ch 1002), (.bool false)⟩,
  ⟨.bin .add, (ch 1001), (.int .i64 1), (ch 1003)⟩]
theorem Zw.i146 : Zw.d37.sub 8 [] (idl 8 Zw.d37.objs) (idA 2) (Zw.d37.st 8 []) = true := by kernel_rfl
theorem Zw.r146 : leafNext (fK (Tryz.Es Tryz.m3 (syOf Zw.t146)) 100000 100000 Zw.p2 (Zw.d37.st 8 []) 1) 8 Zw.d45 [(10, 10), (11, 11), (12, 12), (13, 30), (14, 14), (15, 15), (16, 16), (17, 17), (18, 18), (19, 28), (20, 19), (21, 20), (22, 21), (23, 22), (24, 23), (25, 24)] [(ch 1000), (ch 1003)] = some Zw.p2 := by kernel_rfl
noncomputable def Zw.t149 : List SE := ncL [Zw.sl 1001 200,
  Zw.sl 1001 100,
  ⟨.len, (ch 1000), (.int .i64 0), (ch 1002)⟩,
  ⟨.bin .lss, (ch 1001), (ch 1002), (.bool true)⟩,
  ⟨.idx 1, (ch 1000), (ch 1001), (.pointer (some ⟨8, 0, none⟩))⟩,
  ⟨.bin .add, (ch 1001), (.int .i64 1), (ch 1003)⟩]
theorem Zw.i149 : Zw.d38.sub 8 [[(.bool false)]] (idl 8 Zw.d38.objs) (idA 2) (Zw.d38.st 8 []) = true := by kernel_rfl
theorem Zw.r149 : leafNext (fK (Tryz.Es Tryz.m3 (syOf Zw.t149)) 100000 100000 Zw.p2 (Zw.d38.st 8 [[(.bool false)]]) 1) 8 Zw.d46 [(10, 10), (11, 11), (12, 12), (13, 31), (14, 14), (15, 15), (16, 16), (17, 17), (18, 18), (19, 29), (20, 19), (21, 20), (22, 21), (23, 22), (24, 23), (25, 24), (26, 25)] [(ch 1000), (ch 1003)] = some Zw.p2 := by kernel_rfl
noncomputable def Zw.t152 : List SE := ncL [Zw.sl 1001 200,
  Zw.sl 1001 100,
  ⟨.len, (ch 1000), (.int .i64 0), (ch 1002)⟩,
  ⟨.bin .lss, (ch 1001), (ch 1002), (.bool true)⟩,
  ⟨.idx 1, (ch 1000), (ch 1001), (.pointer (some ⟨8, 0, none⟩))⟩,
  ⟨.bin .add, (ch 1001), (.int .i64 1), (ch 1003)⟩]
theorem Zw.i152 : Zw.d39.sub 8 [[(.bool true)]] (idl 8 Zw.d39.objs) (idA 2) (Zw.d39.st 8 []) = true := by kernel_rfl
theorem Zw.r152 : leafNext (fK (Tryz.Es Tryz.m3 (syOf Zw.t152)) 100000 100000 Zw.p2 (Zw.d39.st 8 [[(.bool true)]]) 1) 8 Zw.d39 [(10, 10), (11, 11), (12, 12), (13, 13), (14, 14), (15, 15), (16, 16), (17, 17), (18, 18), (19, 19), (20, 20), (21, 21), (22, 22), (23, 23), (24, 24), (25, 25), (26, 26)] [(ch 1000), (ch 1003)] = some Zw.p2 := by kernel_rfl
noncomputable def Zw.t155 : List SE := ncL [Zw.sl 1001 200,
  ⟨.bin .lss, (ch 1001), (.int .i64 100), (.bool false)⟩,
  ⟨.bin .add, (ch 1001), (.int .i64 1), (ch 1002)⟩]
theorem Zw.i155 : Zw.d39.sub 8 [] (idl 8 Zw.d39.objs) (idA 2) (Zw.d39.st 8 []) = true := by kernel_rfl
theorem Zw.r155 : leafNext (fK (Tryz.Es Tryz.m3 (syOf Zw.t155)) 100000 100000 Zw.p2 (Zw.d39.st 8 []) 1) 8 Zw.d47 [(10, 10), (11, 11), (12, 12), (13, 32), (14, 14), (15, 15), (16, 16), (17, 17), (18, 18), (19, 30), (20, 19), (21, 20), (22, 21), (23, 22), (24, 23), (25, 24), (26, 25), (27, 26)] [(ch 1000), (ch 1002)] = some Zw.p2 := by kernel_rfl
noncomputable def Zw.t158 : List SE := ncL [Zw.sl 1001 200,
  Zw.sl 1001 100,
  ⟨.len, (ch 1000), (.int .i64 0), (ch 1002)⟩,
  ⟨.bin .lss, (ch 1001), (ch 1002), (.bool false)⟩,
  ⟨.bin .add, (ch 1001), (.int .i64 1), (ch 1003)⟩]
theorem Zw.i158 : Zw.d40.sub 8 [] (idl 8 Zw.d40.objs) (idA 2) (Zw.d40.st 8 []) = true := by kernel_rfl
theorem Zw.r158 : leafNext (fK (Tryz.Es Tryz.m3 (syOf Zw.t158)) 100000 100000 Zw.p2 (Zw.d40.st 8 []) 1) 8 Zw.d48 [(10, 10), (11, 11), (12, 12), (13, 33), (14, 14), (15, 15), (16, 16), (17, 17), (18, 18), (19, 31), (20, 19), (21, 20), (22, 21), (23, 22), (24, 23), (25, 24), (26, 25), (27, 26), (28, 27)] [(ch 1000), (ch 1003)] = some Zw.p2 := by kernel_rfl
noncomputable def Zw.t161 : List SE := ncL [Zw.sl 1001 200,
  Zw.sl 1001 100,
  ⟨.len, (ch 1000), (.int .i64 0), (ch 1002)⟩,
  ⟨.bin .lss, (ch 1001), (ch 1002), (.bool true)⟩,
  ⟨.idx 1, (ch 1000), (ch 1001), (.pointer (some ⟨8, 0, none⟩))⟩,
  ⟨.bin .add, (ch 1001), (.int .i64 1), (ch 1003)⟩]
theorem Zw.i161 : Zw.d41.sub 8 [[(.bool false)]] (idl 8 Zw.d41.objs) (idA 2) (Zw.d41.st 8 []) = true := by kernel_rfl
theorem Zw.r161 : leafNext (fK (Tryz.Es Tryz.m3 (syOf Zw.t161)) 100000 100000 Zw.p2 (Zw.d41.st 8 [[(.bool false)]]) 1) 8 Zw.d49 [(10, 10), (11, 11), (12, 12), (13, 34), (14, 14), (15, 15), (16, 16), (17, 17), (18, 18), (19, 32), (20, 19), (21, 20), (22, 21), (23, 22), (24, 23), (25, 24), (26, 25), (27, 26), (28, 27), (29, 28)] [(ch 1000), (ch 1003)] = some Zw.p2 := by kernel_rfl
noncomputable def Zw.t164 : List SE := ncL [Zw.sl 1001 200,
  Zw.sl 1001 100,
  ⟨.len, (ch 1000), (.int .i64 0), (ch 1002)⟩,
  ⟨.bin .lss, (ch 1001), (ch 1002), (.bool true)⟩,
  ⟨.idx 1, (ch 1000), (ch 1001), (.pointer (some ⟨8, 0, none⟩))⟩,
  ⟨.bin .add, (ch 1001), (.int .i64 1), (ch 1003)⟩]
theorem Zw.i164 : Zw.d42.sub 8 [[(.bool true)]] (idl 8 Zw.d42.objs) (idA 2) (Zw.d42.st 8 []) = true := by kernel_rfl
theorem Zw.r164 : leafNext (fK (Tryz.Es Tryz.m3 (syOf Zw.t164)) 100000 100000 Zw.p2 (Zw.d42.st 8 [[(.bool true)]]) 1) 8 Zw.d42 [(10, 10), (11, 11), (12, 12), (13, 13), (14, 14), (15, 15), (16, 16), (17, 17), (18, 18), (19, 19), (20, 20), (21, 21), (22, 22), (23, 23), (24, 24), (25, 25), (26, 26), (27, 27), (28, 28), (29, 29)] [(ch 1000), (ch 1003)] = some Zw.p2 := by kernel_rfl
noncomputable def Zw.t167 : List SE := ncL [Zw.sl 1001 200,
  ⟨.bin .lss, (ch 1001), (.int .i64 100), (.bool false)⟩,
  ⟨.bin .add, (ch 1001), (.int .i64 1), (ch 1002)⟩]
theorem Zw.i167 : Zw.d42.sub 8 [] (idl 8 Zw.d42.objs) (idA 2) (Zw.d42.st 8 []) = true := by kernel_rfl
theorem Zw.r167 : leafNext (fK (Tryz.Es Tryz.m3 (syOf Zw.t167)) 100000 100000 Zw.p2 (Zw.d42.st 8 []) 1) 8 Zw.d50 [(10, 10), (11, 11), (12, 12), (13, 35), (14, 14), (15, 15), (16, 16), (17, 17), (18, 18), (19, 33), (20, 19), (21, 20), (22, 21), (23, 22), (24, 23), (25, 24), (26, 25), (27, 26), (28, 27), (29, 28), (30, 29)] [(ch 1000), (ch 1002)] = some Zw.p2 := by kernel_rfl
noncomputable def Zw.t170 : List SE := ncL [Zw.sl 1001 200,
  Zw.sl 1001 100,
  ⟨.len, (ch 1000), (.int .i64 0), (ch 1002)⟩,
  ⟨.bin .lss, (ch 1001), (ch 1002), (.bool true)⟩,
  ⟨.idx 1, (ch 1000), (ch 1001), (.pointer (some ⟨8, 0, none⟩))⟩,
  ⟨.bin .add, (ch 1001), (.int .i64 1), (ch 1003)⟩]
theorem Zw.i170 : Zw.d44.sub 8 [[(.bool false)]] (idl 8 Zw.d44.objs) (idA 2) (Zw.d44.st 8 []) = true := by kernel_rfl
theorem Zw.r170 : leafNext (fK (Tryz.Es Tryz.m3 (syOf Zw.t170)) 100000 100000 Zw.p2 (Zw.d44.st 8 [[(.bool false)]]) 1) 8 Zw.d51 [(10, 10), (11, 11), (12, 12), (13, 30), (14, 14), (15, 15), (16, 16), (17, 17), (18, 18), (19, 19), (20, 28), (21, 20), (22, 21), (23, 22), (24, 23), (25, 24)] [(ch 1000), (ch 1003)] = some Zw.p2 := by kernel_rfl
noncomputable def Zw.t173 : List SE := ncL [Zw.sl 1001 200,
  Zw.sl 1001 100,
  ⟨.len, (ch 1000), (.int .i64 0), (ch 1002)⟩,
  ⟨.bin .lss, (ch 1001), (ch 1002), (.bool true)⟩,
  ⟨.idx 1, (ch 1000), (ch 1001), (.pointer (some ⟨8, 0, none⟩))⟩,
  ⟨.bin .add, (ch 1001), (.int .i64 1), (ch 1003)⟩]
theorem Zw.i173 : Zw.d45.sub 8 [[(.bool true)]] (idl 8 Zw.d45.objs) (idA 2) (Zw.d45.st 8 []) = true := by kernel_rfl
theorem Zw.r173 : leafNext (fK (Tryz.Es Tryz.m3 (syOf Zw.t173)) 100000 100000 Zw.p2 (Zw.d45.st 8 [[(.bool true)]]) 1) 8 Zw.d45 [(10, 10), (11, 11), (12, 12), (13, 13), (14, 14), (15, 15), (16, 16), (17, 17), (18, 18), (19, 19), (20, 20), (21, 21), (22, 22), (23, 23), (24, 24), (25, 25)] [(ch 1000), (ch 1003)] = some Zw.p2 := by kernel_rfl
noncomputable def Zw.t176 : List SE := ncL [Zw.sl 1001 200,
  ⟨.bin .lss, (ch 1001), (.int .i64 100), (.bool false)⟩,
  ⟨.bin .add, (ch 1001), (.int .i64 1), (ch 1002)⟩]
theorem Zw.i176 : Zw.d45.sub 8 [] (idl 8 Zw.d45.objs) (idA 2) (Zw.d45.st 8 []) = true := by kernel_rfl
theorem Zw.r176 : leafNext (fK (Tryz.Es Tryz.m3 (syOf Zw.t176)) 100000 100000 Zw.p2 (Zw.d45.st 8 []) 1) 8 Zw.d52 [(10, 10), (11, 11), (12, 12), (13, 31), (14, 14), (15, 15), (16, 16), (17, 17), (18, 18), (19, 19), (20, 29), (21, 20), (22, 21), (23, 22), (24, 23), (25, 24), (26, 25)] [(ch 1000), (ch 1002)] = some Zw.p2 := by kernel_rfl
noncomputable def Zw.t179 : List SE := ncL [Zw.sl 1001 200,
  Zw.sl 1001 100,
  ⟨.len, (ch 1000), (.int .i64 0), (ch 1002)⟩,
  ⟨.bin .lss, (ch 1001), (ch 1002), (.bool false)⟩,
  ⟨.bin .add, (ch 1001), (.int .i64 1), (ch 1003)⟩]
theorem Zw.i179 : Zw.d46.sub 8 [] (idl 8 Zw.d46.objs) (idA 2) (Zw.d46.st 8 []) = true := by kernel_rfl
theorem Zw.r179 : leafNext (fK (Tryz.Es Tryz.m3 (syOf Zw.t179)) 100000 100000 Zw.p2 (Zw.d46.st 8 []) 1) 8 Zw.d53 [(10, 10), (11, 11), (12, 12), (13, 32), (14, 14), (15, 15), (16, 16), (17, 17), (18, 18), (19, 19), (20, 30), (21, 20), (22, 21), (23, 22), (24, 23), (25, 24), (26, 25), (27, 26)] [(ch 1000), (ch 1003)] = some Zw.p2 := by kernel_rfl
noncomputable def Zw.t182 : List SE := ncL [Zw.sl 1001 200,
  Zw.sl 1001 100,
  ⟨.len, (ch 1000), (.int .i64 0), (ch 1002)⟩,
  ⟨.bin .lss, (ch 1001), (ch 1002), (.bool true)⟩,
  ⟨.idx 1, (ch 1000), (ch 1001), (.pointer (some ⟨8, 0, none⟩))⟩,
  ⟨.bin .add, (ch 1001), (.int .i64 1), (ch 1003)⟩]
theorem Zw.i182 : Zw.d47.sub 8 [[(.bool false)]] (idl 8 Zw.d47.objs) (idA 2) (Zw.d47.st 8 []) = true := by kernel_rfl
theorem Zw.r182 : leafNext (fK (Tryz.Es Tryz.m3 (syOf Zw.t182)) 100000 100000 Zw.p2 (Zw.d47.st 8 [[(.bool false)]]) 1) 8 Zw.d54 [(10, 10), (11, 11), (12, 12), (13, 33), (14, 14), (15, 15), (16, 16), (17, 17), (18, 18), (19, 19), (20, 31), (21, 20), (22, 21), (23, 22), (24, 23), (25, 24), (26, 25), (27, 26), (28, 27)] [(ch 1000), (ch 1003)] = some Zw.p2 := by kernel_rfl
noncomputable def Zw.t185 : List SE := ncL [Zw.sl 1001 200,
  Zw.sl 1001 100,
  ⟨.len, (ch 1000), (.int .i64 0), (ch 1002)⟩,
  ⟨.bin .lss, (ch 1001), (ch 1002), (.bool true)⟩,
  ⟨.idx 1, (ch 1000), (ch 1001), (.pointer (some ⟨8, 0, none⟩))⟩,
  ⟨.bin .add, (ch 1001), (.int .i64 1), (ch 1003)⟩]
theorem Zw.i185 : Zw.d48.sub 8 [[(.bool true)]] (idl 8 Zw.d48.objs) (idA 2) (Zw.d48.st 8 []) = true := by kernel_rfl
theorem Zw.r185 : leafNext (fK (Tryz.Es Tryz.m3 (syOf Zw.t185)) 100000 100000 Zw.p2 (Zw.d48.st 8 [[(.bool true)]]) 1) 8 Zw.d48 [(10, 10), (11, 11), (12, 12), (13, 13), (14, 14), (15, 15), (16, 16), (17, 17), (18, 18), (19, 19), (20, 20), (21, 21), (22, 22), (23, 23), (24, 24), (25, 25), (26, 26), (27, 27), (28, 28)] [(ch 1000), (ch 1003)] = some Zw.p2 := by kernel_rfl
noncomputable def Zw.t188 : List SE := ncL [Zw.sl 1001 200,
  ⟨.bin .lss, (ch 1001), (.int .i64 100), (.bool false)⟩,
  ⟨.bin .add, (ch 1001), (.int .i64 1), (ch 1002)⟩]
theorem Zw.i188 : Zw.d48.sub 8 [] (idl 8 Zw.d48.objs) (idA 2) (Zw.d48.st 8 []) = true := by kernel_rfl
theorem Zw.r188 : leafNext (fK (Tryz.Es Tryz.m3 (syOf Zw.t188)) 100000 100000 Zw.p2 (Zw.d48.st 8 []) 1) 8 Zw.d55 [(10, 10), (11, 11), (12, 12), (13, 34), (14, 14), (15, 15), (16, 16), (17, 17), (18, 18), (19, 19), (20, 32), (21, 20), (22, 21), (23, 22), (24, 23), (25, 24), (26, 25), (27, 26), (28, 27), (29, 28)] [(ch 1000), (ch 1002)] = some Zw.p2 := by kernel_rfl
noncomputable def Zw.t191 : List SE := ncL [Zw.sl 1001 200,
  Zw.sl 1001 100,
  ⟨.len, (ch 1000), (.int .i64 0), (ch 1002)⟩,
  ⟨.bin .lss, (ch 1001), (ch 1002), (.bool false)⟩,
  ⟨.bin .add, (ch 1001), (.int .i64 1), (ch 1003)⟩]
theorem Zw.i191 : Zw.d49.sub 8 [] (idl 8 Zw.d49.objs) (idA 2) (Zw.d49.st 8 []) = true := by kernel_rfl
theorem Zw.r191 : leafNext (fK (Tryz.Es Tryz.m3 (syOf Zw.t191)) 100000 100000 Zw.p2 (Zw.d49.st 8 []) 1) 8 Zw.d56 [(10, 10), (11, 11), (12, 12), (13, 35), (14, 14), (15, 15), (16, 16), (17, 17), (18, 18), (19, 19), (20, 33), (21, 20), (22, 21), (23, 22), (24, 23), (25, 24), (26, 25), (27, 26), (28, 27), (29, 28), (30, 29)] [(ch 1000), (ch 1003)] = some Zw.p2 := by kernel_rfl
noncomputable def Zw.t194 : List SE := ncL [Zw.sl 1001 200,
  Zw.sl 1001 100,
  ⟨.len, (ch 1000), (.int .i64 0), (ch 1002)⟩,
  ⟨.bin .lss, (ch 1001), (ch 1002), (.bool true)⟩,
  ⟨.idx 1, (ch 1000), (ch 1001), (.pointer (some ⟨8, 0, none⟩))⟩,
  ⟨.bin .add, (ch 1001), (.int .i64 1), (ch 1003)⟩]
theorem Zw.i194 : Zw.d50.sub 8 [[(.bool false)]] (idl 8 Zw.d50.objs) (idA 2) (Zw.d50.st 8 []) = true := by kernel_rfl
theorem Zw.r194 : leafNext (fK (Tryz.Es Tryz.m3 (syOf Zw.t194)) 100000 100000 Zw.p2 (Zw.d50.st 8 [[(.bool false)]]) 1) 8 Zw.d57 [(10, 10), (11, 11), (12, 12), (13, 36), (14, 14), (15, 15), (16, 16), (17, 17), (18, 18), (19, 19), (20, 34), (21, 20), (22, 21), (23, 22), (24, 23), (25, 24), (26, 25), (27, 26), (28, 27), (29, 28), (30, 29), (31, 30)] [(ch 1000), (ch 1003)] = some Zw.p2 := by kernel_rfl
noncomputable def Zw.t197 : List SE := ncL [Zw.sl 1001 200]
theorem Zw.i197 : Zw.d51.sub 8 [] (idl 8 Zw.d51.objs) (idA 2) (Zw.d51.st 8 []) = true := by kernel_rfl
theorem Zw.r197 : leafFin (Tryz.Es Tryz.m3 (syOf Zw.t197)) Tryz.f6 (fK (Tryz.Es Tryz.m3 (syOf Zw.t197)) 100000 100000 Zw.p2 (Zw.d51.st 8 []) 1) = true := by kernel_rfl
noncomputable def Zw.t200 : List SE := ncL [Zw.sl 1001 200,
  Zw.sl 1001 100,
  ⟨.len, (ch 1000), (.int .i64 0), (ch 1002)⟩,
  ⟨.bin .lss, (ch 1001), (ch 1002), (.bool false)⟩,
  ⟨.bin .add, (ch 1001), (.int .i64 1), (ch 1003)⟩]
theorem Zw.i200 : Zw.d52.sub 8 [] (idl 8 Zw.d52.objs) (idA 2) (Zw.d52.st 8 []) = true := by kernel_rfl
theorem Zw.r200 : leafNext (fK (Tryz.Es Tryz.m3 (syOf Zw.t200)) 100000 100000 Zw.p2 (Zw.d52.st 8 []) 1) 8 Zw.d58 [(10, 10), (11, 11), (12, 12), (13, 32), (14, 14), (15, 15), (16, 16), (17, 17), (18, 18), (19, 19), (20, 20), (21, 30), (22, 21), (23, 22), (24, 23), (25, 24), (26, 25), (27, 26)] [(ch 1000), (ch 1003)] = some Zw.p2 := by kernel_rfl
noncomputable def Zw.t203 : List SE := ncL [Zw.sl 1001 200,
  Zw.sl 1001 100,
  ⟨.len, (ch 1000), (.int .i64 0), (ch 1002)⟩,
  ⟨.bin .lss, (ch 1001), (ch 1002), (.bool true)⟩,
  ⟨.idx 1, (ch 1000), (ch 1001), (.pointer (some ⟨8, 0, none⟩))⟩,
  ⟨.bin .add, (ch 1001), (.int .i64 1), (ch 1003)⟩]
theorem Zw.i203 : Zw.d53.sub 8 [[(.bool false)]] (idl 8 Zw.d53.objs) (idA 2) (Zw.d53.st 8 []) = true := by kernel_rfl
theorem Zw.r203 : leafNext (fK (Tryz.Es Tryz.m3 (syOf Zw.t203)) 100000 100000 Zw.p2 (Zw.d53.st 8 [[(.bool false)]]) 1) 8 Zw.d59 [(10, 10), (11, 11), (12, 12), (13, 33), (14, 14), (15, 15), (16, 16), (17, 17), (18, 18), (19, 19), (20, 20), (21, 31), (22, 21), (23, 22), (24, 23), (25, 24), (26, 25), (27, 26), (28, 27)] [(ch 1000), (ch 1003)] = some Zw.p2 := by kernel_rfl
noncomputable def Zw.t206 : List SE := ncL [Zw.sl 1001 200,
  Zw.sl 1001 100,
  ⟨.len, (ch 1000), (.int .i64 0), (ch 1002)⟩,
  ⟨.bin .lss, (ch 1001), (ch 1002), (.bool true)⟩,
  ⟨.idx 1, (ch 1000), (ch 1001), (.pointer (some ⟨8, 0, none⟩))⟩,
  ⟨.bin .add, (ch 1001), (.int .i64 1), (ch 1003)⟩]
theorem Zw.i206 : Zw.d54.sub 8 [[(.bool true)]] (idl 8 Zw.d54.objs) (idA 2) (Zw.d54.st 8 []) = true := by kernel_rfl
theorem Zw.r206 : leafNext (fK (Tryz.Es Tryz.m3 (syOf Zw.t206)) 100000 100000 Zw.p2 (Zw.d54.st 8 [[(.bool true)]]) 1) 8 Zw.d54 [(10, 10), (11, 11), (12, 12), (13, 13), (14, 14), (15, 15), (16, 16), (17, 17), (18, 18), (19, 19), (20, 20), (21, 21), (22, 22), (23, 23), (24, 24), (25, 25), (26, 26), (27, 27), (28, 28)] [(ch 1000), (ch 1003)] = some Zw.p2 := by kernel_rfl
noncomputable def Zw.t209 : List SE := ncL [Zw.sl 1001 200,
  ⟨.bin .lss, (ch 1001), (.int .i64 100), (.bool false)⟩,
  ⟨.bin .add, (ch 1001), (.int .i64 1), (ch 1002)⟩]
theorem Zw.i209 : Zw.d54.sub 8 [] (idl 8 Zw.d54.objs) (idA 2) (Zw.d54.st 8 []) = true := by kernel_rfl
theorem Zw.r209 : leafNext (fK (Tryz.Es Tryz.m3 (syOf Zw.t209)) 100000 100000 Zw.p2 (Zw.d54.st 8 []) 1) 8 Zw.d60 [(10, 10), (11, 11), (12, 12), (13, 34), (14, 14), (15, 15), (16, 16), (17, 17), (18, 18), (19, 19), (20, 20), (21, 32), (22, 21), (23, 22), (24, 23), (25, 24), (26, 25), (27, 26), (28, 27), (29, 28)] [(ch 1000), (ch 1002)] = some Zw.p2 := by kernel_rfl
noncomputable def Zw.t212 : List SE := ncL [Zw.sl 1001 200,
  Zw.sl 1001 100,
  ⟨.len, (ch 1000), (.int .i64 0), (ch 1002)⟩,
  ⟨.bin .lss, (ch 1001), (ch 1002), (.bool false)⟩,
  ⟨.bin .add, (ch 1001), (.int .i64 1), (ch 1003)⟩]
theorem Zw.i212 : Zw.d55.sub 8 [] (idl 8 Zw.d55.objs) (idA 2) (Zw.d55.st 8 []) = true := by kernel_rfl
theorem Zw.r212 : leafNext (fK (Tryz.Es Tryz.m3 (syOf Zw.t212)) 100000 100000 Zw.p2 (Zw.d55.st 8 []) 1) 8 Zw.d61 [(10, 10), (11, 11), (12, 12), (13, 35), (14, 14), (15, 15), (16, 16), (17, 17), (18, 18), (19, 19), (20, 20), (21, 33), (22, 21), (23, 22), (24, 23), (25, 24), (26, 25), (27, 26), (28, 27), (29, 28), (30, 29)] [(ch 1000), (ch 1003)] = some Zw.p2 := by kernel_rfl
noncomputable def Zw.t215 : List SE := ncL [Zw.sl 1001 200,
  Zw.sl 1001 100,
  ⟨.len, (ch 1000), (.int .i64 0), (ch 1002)⟩,
  ⟨.bin .lss, (ch 1001), (ch 1002), (.bool true)⟩,
  ⟨.idx 1, (ch 1000), (ch 1001), (.pointer (some ⟨8, 0, none⟩))⟩,
  ⟨.bin .add, (ch 1001), (.int .i64 1), (ch 1003)⟩]
theorem Zw.i215 : Zw.d56.sub 8 [[(.bool false)]] (idl 8 Zw.d56.objs) (idA 2) (Zw.d56.st 8 []) = true := by kernel_rfl
theorem Zw.r215 : leafNext (fK (Tryz.Es Tryz.m3 (syOf Zw.t215)) 100000 100000 Zw.p2 (Zw.d56.st 8 [[(.bool false)]]) 1) 8 Zw.d62 [(10, 10), (11, 11), (12, 12), (13, 36), (14, 14), (15, 15), (16, 16), (17, 17), (18, 18), (19, 19), (20, 20), (21, 34), (22, 21), (23, 22), (24, 23), (25, 24), (26, 25), (27, 26), (28, 27), (29, 28), (30, 29), (31, 30)] [(ch 1000), (ch 1003)] = some Zw.p2 := by kernel_rfl
noncomputable def Zw.t218 : List SE := ncL [Zw.sl 1001 200,
  Zw.sl 1001 100,
  ⟨.len, (ch 1000), (.int .i64 0), (ch 1002)⟩,
  ⟨.bin .lss, (ch 1001), (ch 1002), (.bool true)⟩,
  ⟨.idx 1, (ch 1000), (ch 1001), (.pointer (some ⟨8, 0, none⟩))⟩,
  ⟨.bin .add, (ch 1001), (.int .i64 1), (ch 1003)⟩]
theorem Zw.i218 : Zw.d57.sub 8 [[(.bool true)]] (idl 8 Zw.d57.objs) (idA 2) (Zw.d57.st 8 []) = true := by kernel_rfl
theorem Zw.r218 : leafNext (fK (Tryz.Es Tryz.m3 (syOf Zw.t218)) 100000 100000 Zw.p2 (Zw.d57.st 8 [[(.bool true)]]) 1) 8 Zw.d57 [(10, 10), (11, 11), (12, 12), (13, 13), (14, 14), (15, 15), (16, 16), (17, 17), (18, 18), (19, 19), (20, 20), (21, 21), (22, 22), (23, 23), (24, 24), (25, 25), (26, 26), (27, 27), (28, 28), (29, 29), (30, 30), (31, 31)] [(ch 1000), (ch 1003)] = some Zw.p2 := by kernel_rfl
noncomputable def Zw.t221 : List SE := ncL [Zw.sl 1001 200,
  ⟨.bin .lss, (ch 1001), (.int .i64 100), (.bool false)⟩,
  ⟨.bin .add, (ch 1001), (.int .i64 1), (ch 1002)⟩]
theorem Zw.i221 : Zw.d57.sub 8 [] (idl 8 Zw.d57.objs) (idA 2) (Zw.d57.st 8 []) = true := by kernel_rfl
theorem Zw.r221 : leafNext (fK (Tryz.Es Tryz.m3 (syOf Zw.t221)) 100000 100000 Zw.p2 (Zw.d57.st 8 []) 1) 8 Zw.d63 [(10, 10), (11, 11), (12, 12), (13, 37), (14, 14), (15, 15), (16, 16), (17, 17), (18, 18), (19, 19), (20, 20), (21, 35), (22, 21), (23, 22), (24, 23), (25, 24), (26, 25), (27, 26), (28, 27), (29, 28), (30, 29), (31, 30), (32, 31)] [(ch 1000), (ch 1002)] = some Zw.p2 := by kernel_rfl
noncomputable def Zw.t224 : List SE := ncL [Zw.sl 1001 200,
  Zw.sl 1001 100,
  ⟨.len, (ch 1000), (.int .i64 0), (ch 1002)⟩,
  ⟨.bin .lss, (ch 1001), (ch 1002), (.bool true)⟩,
  ⟨.idx 1, (ch 1000), (ch 1001), (.pointer (some ⟨8, 0, none⟩))⟩,
  ⟨.bin .add, (ch 1001), (.int .i64 1), (ch 1003)⟩]
theorem Zw.i224 : Zw.d59.sub 8 [[(.bool false)]] (idl 8 Zw.d59.objs) (idA 2) (Zw.d59.st 8 []) = true := by kernel_rfl
theorem Zw.r224 : leafNext (fK (Tryz.Es Tryz.m3 (syOf Zw.t224)) 100000 100000 Zw.p2 (Zw.d59.st 8 [[(.bool false)]]) 1) 8 Zw.d64 [(10, 10), (11, 11), (12, 12), (13, 34), (14, 14), (15, 15), (16, 16), (17, 17), (18, 18), (19, 19), (20, 20), (21, 21), (22, 32), (23, 22), (24, 23), (25, 24), (26, 25), (27, 26), (28, 27), (29, 28)] [(ch 1000), (ch 1003)] = some Zw.p2 := by kernel_rfl
noncomputable def Zw.t227 : List SE := ncL [Zw.sl 1001 200,
  Zw.sl 1001 100,
  ⟨.len, (ch 1000), (.int .i64 0), (ch 1002)⟩,
  ⟨.bin .lss, (ch 1001), (ch 1002), (.bool true)⟩,
  ⟨.idx 1, (ch 1000), (ch 1001), (.pointer (some ⟨8, 0, none⟩))⟩,
  ⟨.bin .add, (ch 1001), (.int .i64 1), (ch 1003)⟩]
theorem Zw.i227 : Zw.d60.sub 8 [[(.bool true)]] (idl 8 Zw.d60.objs) (idA 2) (Zw.d60.st 8 []) = true := by kernel_rfl
theorem Zw.r227 : leafNext (fK (Tryz.Es Tryz.m3 (syOf Zw.t227)) 100000 100000 Zw.p2 (Zw.d60.st 8 [[(.bool true)]]) 1) 8 Zw.d60 [(10, 10), (11, 11), (12, 12), (13, 13), (14, 14), (15, 15), (16, 16), (17, 17), (18, 18), (19, 19), (20, 20), (21, 21), (22, 22), (23, 23), (24, 24), (25, 25), (26, 26), (27, 27), (28, 28), (29, 29)] [(ch 1000), (ch 1003)] = some Zw.p2 := by kernel_rfl
noncomputable def Zw.t230 : List SE := ncL [Zw.sl 1001 200,
  ⟨.bin .lss, (ch 1001), (.int .i64 100), (.bool false)⟩,
  ⟨.bin .add, (ch 1001), (.int .i64 1), (ch 1002)⟩]
theorem Zw.i230 : Zw.d60.sub 8 [] (idl 8 Zw.d60.objs) (idA 2) (Zw.d60.st 8 []) = true := by kernel_rfl
theorem Zw.r230 : leafNext (fK (Tryz.Es Tryz.m3 (syOf Zw.t230)) 100000 100000 Zw.p2 (Zw.d60.st 8 []) 1) 8 Zw.d65 [(10, 10), (11, 11), (12, 12), (13, 35), (14, 14), (15, 15), (16, 16), (17, 17), (18, 18), (19, 19), (20, 20), (21, 21), (22, 33), (23, 22), (24, 23), (25, 24), (26, 25), (27, 26), (28, 27), (29, 28), (30, 29)] [(ch 1000), (ch 1002)] = some Zw.p2 := by kernel_rfl
noncomputable def Zw.t233 : List SE := ncL [Zw.sl 1001 200,
  Zw.sl 1001 100,
  ⟨.len, (ch 1000), (.int .i64 0), (ch 1002)⟩,
  ⟨.bin .lss, (ch 1001), (ch 1002), (.bool false)⟩,
  ⟨.bin .add, (ch 1001), (.int .i64 1), (ch 1003)⟩]
theorem Zw.i233 : Zw.d61.sub 8 [] (idl 8 Zw.d61.objs) (idA 2) (Zw.d61.st 8 []) = true := by kernel_rfl
theorem Zw.r233 : leafNext (fK (Tryz.Es Tryz.m3 (syOf Zw.t233)) 100000 100000 Zw.p2 (Zw.d61.st 8 []) 1) 8 Zw.d66 [(10, 10), (11, 11), (12, 12), (13, 36), (14, 14), (15, 15), (16, 16), (17, 17), (18, 18), (19, 19), (20, 20), (21, 21), (22, 34), (23, 22), (24, 23), (25, 24), (26, 25), (27, 26), (28, 27), (29, 28), (30, 29), (31, 30)] [(ch 1000), (ch 1003)] = some Zw.p2 := by kernel_rfl
noncomputable def Zw.t236 : List SE := ncL [Zw.sl 1001 200,
  Zw.sl 1001 100,
  ⟨.len, (ch 1000), (.int .i64 0), (ch 1002)⟩,
  ⟨.bin .lss, (ch 1001), (ch 1002), (.bool true)⟩,
  ⟨.idx 1, (ch 1000), (ch 1001), (.pointer (some ⟨8, 0, none⟩))⟩,
  ⟨.bin .add, (ch 1001), (.int .i64 1), (ch 1003)⟩]
theorem Zw.i236 : Zw.d62.sub 8 [[(.bool false)]] (idl 8 Zw.d62.objs) (idA 2) (Zw.d62.st 8 []) = true := by kernel_rfl
theorem Zw.r236 : leafNext (fK (Tryz.Es Tryz.m3 (syOf Zw.t236)) 100000 100000 Zw.p2 (Zw.d62.st 8 [[(.bool false)]]) 1) 8 Zw.d67 [(10, 10), (11, 11), (12, 12), (13, 37), (14, 14), (15, 15), (16, 16), (17, 17), (18, 18), (19, 19), (20, 20), (21, 21), (22, 35), (23, 22), (24, 23), (25, 24), (26, 25), (27, 26), (28, 27), (29, 28), (30, 29), (31, 30), (32, 31)] [(ch 1000), (ch 1003)] = some Zw.p2 := by kernel_rfl
noncomputable def Zw.t239 : List SE := ncL [Zw.sl 1001 200,
  Zw.sl 1001 100,
  ⟨.len, (ch 1000), (.int .i64 0), (ch 1002)⟩,
  ⟨.bin .lss, (ch 1001), (ch 1002), (.bool true)⟩,
  ⟨.idx 1, (ch 1000), (ch 1001), (.pointer (some ⟨8, 0, none⟩))⟩,
  ⟨.bin .add, (ch 1001), (.int .i64 1), (ch 1003)⟩]
theorem Zw.i239 : Zw.d63.sub 8 [[(.bool true)]] (idl 8 Zw.d63.objs) (idA 2) (Zw.d63.st 8 []) = true := by kernel_rfl
theorem Zw.r239 : leafNext (fK (Tryz.Es Tryz.m3 (syOf Zw.t239)) 100000 100000 Zw.p2 (Zw.d63.st 8 [[(.bool true)]]) 1) 8 Zw.d63 [(10, 10), (11, 11), (12, 12), (13, 13), (14, 14), (15, 15), (16, 16), (17, 17), (18, 18), (19, 19), (20, 20), (21, 21), (22, 22), (23, 23), (24, 24), (25, 25), (26, 26), (27, 27), (28, 28), (29, 29), (30, 30), (31, 31), (32, 32)] [(ch 1000), (ch 1003)] = some Zw.p2 := by kernel_rfl
noncomputable def Zw.t242 : List SE := ncL [Zw.sl 1001 200,
  ⟨.bin .lss, (ch 1001), (.int .i64 100), (.bool false)⟩,
  ⟨.bin .add, (ch 1001), (.int .i64 1), (ch 1002)⟩]
theorem Zw.i242 : Zw.d63.sub 8 [] (idl 8 Zw.d63.objs) (idA 2) (Zw.d63.st 8 []) = true := by kernel_rfl
theorem Zw.r242 : leafNext (fK (Tryz.Es Tryz.m3 (syOf Zw.t242)) 100000 100000 Zw.p2 (Zw.d63.st 8 []) 1) 8 Zw.d68 [(10, 10), (11, 11), (12, 12), (13, 38), (14, 14), (15, 15), (16, 16), (17, 17), (18, 18), (19, 19), (20, 20), (21, 21), (22, 36), (23, 22), (24, 23), (25, 24), (26, 25), (27, 26), (28, 27), (29, 28), (30, 29), (31, 30), (32, 31), (33, 32)] [(ch 1000), (ch 1002)] = some Zw.p2 := by kernel_rfl
noncomputable def Zw.t245 : List SE := ncL [Zw.sl 1001 200,
  Zw.sl 1001 100,
  ⟨.len, (ch 1000), (.int .i64 0), (ch 1002)⟩,
  ⟨.bin .lss, (ch 1001), (ch 1002), (.bool true)⟩,
  ⟨.idx 1, (ch 1000), (ch 1001), (.pointer (some ⟨8, 0, none⟩))⟩,
  ⟨.bin .add, (ch 1001), (.int .i64 1), (ch 1003)⟩]
theorem Zw.i245 : Zw.d65.sub 8 [[(.bool false)]] (idl 8 Zw.d65.objs) (idA 2) (Zw.d65.st 8 []) = true := by kernel_rfl
theorem Zw.r245 : leafNext (fK (Tryz.Es Tryz.m3 (syOf Zw.t245)) 100000 100000 Zw.p2 (Zw.d65.st 8 [[(.bool false)]]) 1) 8 Zw.d69 [(10, 10), (11, 11), (12, 12), (13, 37), (14, 14), (15, 15), (16, 16), (17, 17), (18, 18), (19, 19), (20, 20), (21, 21), (22, 22), (23, 35), (24, 23), (25, 24), (26, 25), (27, 26), (28, 27), (29, 28), (30, 29), (31, 30)] [(ch 1000), (ch 1003)] = some Zw.p2 := by kernel_rfl
noncomputable def Zw.t248 : List SE := ncL [Zw.sl 1001 200,
  Zw.sl 1001 100,
  ⟨.len, (ch 1000), (.int .i64 0), (ch 1002)⟩,
  ⟨.bin .lss, (ch 1001), (ch 1002), (.bool true)⟩,
  ⟨.idx 1, (ch 1000), (ch 1001), (.pointer (some ⟨8, 0, none⟩))⟩,
  ⟨.bin .add, (ch 1001), (.int .i64 1), (ch 1003)⟩]
theorem Zw.i248 : Zw.d66.sub 8 [[(.bool true)]] (idl 8 Zw.d66.objs) (idA 2) (Zw.d66.st 8 []) = true := by kernel_rfl
theorem Zw.r248 : leafNext (fK (Tryz.Es Tryz.m3 (syOf Zw.t248)) 100000 100000 Zw.p2 (Zw.d66.st 8 [[(.bool true)]]) 1) 8 Zw.d66 [(10, 10), (11, 11), (12, 12), (13, 13), (14, 14), (15, 15), (16, 16), (17, 17), (18, 18), (19, 19), (20, 20), (21, 21), (22, 22), (23, 23), (24, 24), (25, 25), (26, 26), (27, 27), (28, 28), (29, 29), (30, 30), (31, 31)] [(ch 1000), (ch 1003)] = some Zw.p2 := by kernel_rfl
noncomputable def Zw.t251 : List SE := ncL [Zw.sl 1001 200,
  ⟨.bin .lss, (ch 1001), (.int .i64 100), (.bool false)⟩,
  ⟨.bin .add, (ch 1001), (.int .i64 1), (ch 1002)⟩]
theorem Zw.i251 : Zw.d66.sub 8 [] (idl 8 Zw.d66.objs) (idA 2) (Zw.d66.st 8 []) = true := by kernel_rfl
theorem Zw.r251 : leafNext (fK (Tryz.Es Tryz.m3 (syOf Zw.t251)) 100000 100000 Zw.p2 (Zw.d66.st 8 []) 1) 8 Zw.d70 [(10, 10), (11, 11), (12, 12), (13, 38), (14, 14), (15, 15), (16, 16), (17, 17), (18, 18), (19, 19), (20, 20), (21, 21), (22, 22), (23, 36), (24, 23), (25, 24), (26, 25), (27, 26), (28, 27), (29, 28), (30, 29), (31, 30), (32, 31)] [(ch 1000), (ch 1002)] = some Zw.p2 := by kernel_rfl
noncomputable def Zw.t254 : List SE := ncL [Zw.sl 1001 200,
  Zw.sl 1001 100,
  ⟨.len, (ch 1000), (.int .i64 0), (ch 1002)⟩,
  ⟨.bin .lss, (ch 1001), (ch 1002), (.bool false)⟩,
  ⟨.bin .add, (ch 1001), (.int .i64 1), (ch 1003)⟩]
theorem Zw.i254 : Zw.d67.sub 8 [] (idl 8 Zw.d67.objs) (idA 2) (Zw.d67.st 8 []) = true := by kernel_rfl
theorem Zw.r254 : leafNext (fK (Tryz.Es Tryz.m3 (syOf Zw.t254)) 100000 100000 Zw.p2 (Zw.d67.st 8 []) 1) 8 Zw.d71 [(10, 10), (11, 11), (12, 12), (13, 39), (14, 14), (15, 15), (16, 16), (17, 17), (18, 18), (19, 19), (20, 20), (21, 21), (22, 22), (23, 37), (24, 23), (25, 24), (26, 25), (27, 26), (28, 27), (29, 28), (30, 29), (31, 30), (32, 31), (33, 32)] [(ch 1000), (ch 1003)] = some Zw.p2 := by kernel_rfl
noncomputable def Zw.t257 : List SE := ncL [Zw.sl 1001 200,
  Zw.sl 1001 100,
  ⟨.len, (ch 1000), (.int .i64 0), (ch 1002)⟩,
  ⟨.bin .lss, (ch 1001), (ch 1002), (.bool true)⟩,
  ⟨.idx 1, (ch 1000), (ch 1001), (.pointer (some ⟨8, 0, none⟩))⟩,
  ⟨.bin .add, (ch 1001), (.int .i64 1), (ch 1003)⟩]
theorem Zw.i257 : Zw.d68.sub 8 [[(.bool false)]] (idl 8 Zw.d68.objs) (idA 2) (Zw.d68.st 8 []) = true := by kernel_rfl
theorem Zw.r257 : leafNext (fK (Tryz.Es Tryz.m3 (syOf Zw.t257)) 100000 100000 Zw.p2 (Zw.d68.st 8 [[(.bool false)]]) 1) 8 Zw.d72 [(10, 10), (11, 11), (12, 12), (13, 40), (14, 14), (15, 15), (16, 16), (17, 17), (18, 18), (19, 19), (20, 20), (21, 21), (22, 22), (23, 38), (24, 23), (25, 24), (26, 25), (27, 26), (28, 27), (29, 28), (30, 29), (31, 30), (32, 31), (33, 32), (34, 33)] [(ch 1000), (ch 1003)] = some Zw.p2 := by kernel_rfl
noncomputable def Zw.t260 : List SE := ncL [Zw.sl 1001 200]
theorem Zw.i260 : Zw.d69.sub 8 [] (idl 8 Zw.d69.objs) (idA 2) (Zw.d69.st 8 []) = true := by kernel_rfl
theorem Zw.r260 : leafFin (Tryz.Es Tryz.m3 (syOf Zw.t260)) Tryz.f6 (fK (Tryz.Es Tryz.m3 (syOf Zw.t260)) 100000 100000 Zw.p2 (Zw.d69.st 8 []) 1) = true := by kernel_rfl
noncomputable def Zw.t263 : List SE := ncL [Zw.sl 1001 200,
  Zw.sl 1001 100,
  ⟨.len, (ch 1000), (.int .i64 0), (ch 1002)⟩,
  ⟨.bin .lss, (ch 1001), (ch 1002), (.bool false)⟩,
  ⟨.bin .add, (ch 1001), (.int .i64 1), (ch 1003)⟩]
theorem Zw.i263 : Zw.d70.sub 8 [] (idl 8 Zw.d70.objs) (idA 2) (Zw.d70.st 8 []) = true := by kernel_rfl
theorem Zw.r263 : leafNext (fK (Tryz.Es Tryz.m3 (syOf Zw.t263)) 100000 100000 Zw.p2 (Zw.d70.st 8 []) 1) 8 Zw.d73 [(10, 10), (11, 11), (12, 12), (13, 39), (14, 14), (15, 15), (16, 16), (17, 17), (18, 18), (19, 19), (20, 20), (21, 21), (22, 22), (23, 23), (24, 37), (25, 24), (26, 25), (27, 26), (28, 27), (29, 28), (30, 29), (31, 30), (32, 31), (33, 32)] [(ch 1000), (ch 1003)] = some Zw.p2 := by kernel_rfl
noncomputable def Zw.t266 : List SE := ncL [Zw.sl 1001 200,
  Zw.sl 1001 100,
  ⟨.len, (ch 1000), (.int .i64 0), (ch 1002)⟩,
  ⟨.bin .lss, (ch 1001), (ch 1002), (.bool true)⟩,
  ⟨.idx 1, (ch 1000), (ch 1001), (.pointer (some ⟨8, 0, none⟩))⟩,
  ⟨.bin .add, (ch 1001), (.int .i64 1), (ch 1003)⟩]
theorem Zw.i266 : Zw.d71.sub 8 [[(.bool false)]] (idl 8 Zw.d71.objs) (idA 2) (Zw.d71.st 8 []) = true := by kernel_rfl
theorem Zw.r266 : leafNext (fK (Tryz.Es Tryz.m3 (syOf Zw.t266)) 100000 100000 Zw.p2 (Zw.d71.st 8 [[(.bool false)]]) 1) 8 Zw.d74 [(10, 10), (11, 11), (12, 12), (13, 40), (14, 14), (15, 15), (16, 16), (17, 17), (18, 18), (19, 19), (20, 20), (21, 21), (22, 22), (23, 23), (24, 38), (25, 24), (26, 25), (27, 26), (28, 27), (29, 28), (30, 29), (31, 30), (32, 31), (33, 32), (34, 33)] [(ch 1000), (ch 1003)] = some Zw.p2 := by kernel_rfl
noncomputable def Zw.t269 : List SE := ncL [Zw.sl 1001 200,
  Zw.sl 1001 100,
  ⟨.len, (ch 1000), (.int .i64 0), (ch 1002)⟩,
  ⟨.bin .lss, (ch 1001), (ch 1002), (.bool true)⟩,
  ⟨.idx 1, (ch 1000), (ch 1001), (.pointer (some ⟨8, 0, none⟩))⟩,
  ⟨.bin .add, (ch 1001), (.int .i64 1), (ch 1003)⟩]
theorem Zw.i269 : Zw.d72.sub 8 [[(.bool true)]] (idl 8 Zw.d72.objs) (idA 2) (Zw.d72.st 8 []) = true := by kernel_rfl
theorem Zw.r269 : leafNext (fK (Tryz.Es Tryz.m3 (syOf Zw.t269)) 100000 100000 Zw.p2 (Zw.d72.st 8 [[(.bool true)]]) 1) 8 Zw.d72 [(10, 10), (11, 11), (12, 12), (13, 13), (14, 14), (15, 15), (16, 16), (17, 17), (18, 18), (19, 19), (20, 20), (21, 21), (22, 22), (23, 23), (24, 24), (25, 25), (26, 26), (27, 27), (28, 28), (29, 29), (30, 30), (31, 31), (32, 32), (33, 33), (34, 34)] [(ch 1000), (ch 1003)] = some Zw.p2 := by kernel_rfl
noncomputable def Zw.t272 : List SE := ncL [Zw.sl 1001 200,
  ⟨.bin .lss, (ch 1001), (.int .i64 100), (.bool false)⟩,
  ⟨.bin .add, (ch 1001), (.int .i64 1), (ch 1002)⟩]
theorem Zw.i272 : Zw.d72.sub 8 [] (idl 8 Zw.d72.objs) (idA 2) (Zw.d72.st 8 []) = true := by kernel_rfl
theorem Zw.r272 : leafNext (fK (Tryz.Es Tryz.m3 (syOf Zw.t272)) 100000 100000 Zw.p2 (Zw.d72.st 8 []) 1) 8 Zw.d75 [(10, 10), (11, 11), (12, 12), (13, 41), (14, 14), (15, 15), (16, 16), (17, 17), (18, 18), (19, 19), (20, 20), (21, 21), (22, 22), (23, 23), (24, 39), (25, 24), (26, 25), (27, 26), (28, 27), (29, 28), (30, 29), (31, 30), (32, 31), (33, 32), (34, 33), (35, 34)] [(ch 1000), (ch 1002)] = some Zw.p2 := by kernel_rfl
noncomputable def Zw.t275 : List SE := ncL [Zw.sl 1001 200,
  Zw.sl 1001 100,
  ⟨.len, (ch 1000), (.int .i64 0), (ch 1002)⟩,
  ⟨.bin .lss, (ch 1001), (ch 1002), (.bool true)⟩,
  ⟨.idx 1, (ch 1000), (ch 1001), (.pointer (some ⟨8, 0, none⟩))⟩,
  ⟨.bin .add, (ch 1001), (.int .i64 1), (ch 1003)⟩]
theorem Zw.i275 : Zw.d74.sub 8 [[(.bool false)]] (idl 8 Zw.d74.objs) (idA 2) (Zw.d74.st 8 []) = true := by kernel_rfl
theorem Zw.r275 : leafNext (fK (Tryz.Es Tryz.m3 (syOf Zw.t275)) 100000 100000 Zw.p2 (Zw.d74.st 8 [[(.bool false)]]) 1) 8 Zw.d76 [(10, 10), (11, 11), (12, 12), (13, 41), (14, 14), (15, 15), (16, 16), (17, 17), (18, 18), (19, 19), (20, 20), (21, 21), (22, 22), (23, 23), (24, 24), (25, 39), (26, 25), (27, 26), (28, 27), (29, 28), (30, 29), (31, 30), (32, 31), (33, 32), (34, 33), (35, 34)] [(ch 1000), (ch 1003)] = some Zw.p2 := by kernel_rfl
noncomputable def Zw.t278 : List SE := ncL [Zw.sl 1001 200,
  Zw.sl 1001 100,
  ⟨.len, (ch 1000), (.int .i64 0), (ch 1002)⟩,
  ⟨.bin .lss, (ch 1001), (ch 1002), (.bool true)⟩,
  ⟨.idx 1, (ch 1000), (ch 1001), (.pointer (some ⟨8, 0, none⟩))⟩,
  ⟨.bin .add, (ch 1001), (.int .i64 1), (ch 1003)⟩]
theorem Zw.i278 : Zw.d75.sub 8 [[(.bool true)]] (idl 8 Zw.d75.objs) (idA 2) (Zw.d75.st 8 []) = true := by kernel_rfl
theorem Zw.r278 : leafNext (fK (Tryz.Es Tryz.m3 (syOf Zw.t278)) 100000 100000 Zw.p2 (Zw.d75.st 8 [[(.bool true)]]) 1) 8 Zw.d75 [(10, 10), (11, 11), (12, 12), (13, 13), (14, 14), (15, 15), (16, 16), (17, 17), (18, 18), (19, 19), (20, 20), (21, 21), (22, 22), (23, 23), (24, 24), (25, 25), (26, 26), (27, 27), (28, 28), (29, 29), (30, 30), (31, 31), (32, 32), (33, 33), (34, 34), (35, 35)] [(ch 1000), (ch 1003)] = some Zw.p2 := by kernel_rfl
noncomputable def Zw.t281 : List SE := ncL [Zw.sl 1001 200,
  ⟨.bin .lss, (ch 1001), (.int .i64 100), (.bool false)⟩,
  ⟨.bin .add, (ch 1001), (.int .i64 1), (ch 1002)⟩]
theorem Zw.i281 : Zw.d75.sub 8 [] (idl 8 Zw.d75.objs) (idA 2) (Zw.d75.st 8 []) = true := by kernel_rfl
theorem Zw.r281 : leafNext (fK (Tryz.Es Tryz.m3 (syOf Zw.t281)) 100000 100000 Zw.p2 (Zw.d75.st 8 []) 1) 8 Zw.d77 [(10, 10), (11, 11), (12, 12), (13, 42), (14, 14), (15, 15), (16, 16), (17, 17), (18, 18), (19, 19), (20, 20), (21, 21), (22, 22), (23, 23), (24, 24), (25, 40), (26, 25), (27, 26), (28, 27), (29, 28), (30, 29), (31, 30), (32, 31), (33, 32), (34, 33), (35, 34), (36, 35)] [(ch 1000), (ch 1002)] = some Zw.p2 := by kernel_rfl
noncomputable def Zw.t284 : List SE := ncL [Zw.sl 1001 200,
  Zw.sl 1001 100,
  ⟨.len, (ch 1000), (.int .i64 0), (ch 1002)⟩,
  ⟨.bin .lss, (ch 1001), (ch 1002), (.bool true)⟩,
  ⟨.idx 1, (ch 1000), (ch 1001), (.pointer (some ⟨8, 0, none⟩))⟩,
  ⟨.bin .add, (ch 1001), (.int .i64 1), (ch 1003)⟩]
theorem Zw.i284 : Zw.d77.sub 8 [[(.bool false)]] (idl 8 Zw.d77.objs) (idA 2) (Zw.d77.st 8 []) = true := by kernel_rfl
theorem Zw.r284 : leafNext (fK (Tryz.Es Tryz.m3 (syOf Zw.t284)) 100000 100000 Zw.p2 (Zw.d77.st 8 [[(.bool false)]]) 1) 8 Zw.d78 [(10, 10), (11, 11), (12, 12), (13, 43), (14, 14), (15, 15), (16, 16), (17, 17), (18, 18), (19, 19), (20, 20), (21, 21), (22, 22), (23, 23), (24, 24), (25, 25), (26, 41), (27, 26), (28, 27), (29, 28), (30, 29), (31, 30), (32, 31), (33, 32), (34, 33), (35, 34), (36, 35), (37, 36)] [(ch 1000), (ch 1003)] = some Zw.p2 := by kernel_rfl
noncomputable def Zw.t287 : List SE := ncL [Zw.sl 1001 200]
theorem Zw.i287 : Zw.d78.sub 8 [] (idl 8 Zw.d78.objs) (idA 2) (Zw.d78.st 8 []) = true := by kernel_rfl
theorem Zw.r287 : leafFin (Tryz.Es Tryz.m3 (syOf Zw.t287)) Tryz.f6 (fK (Tryz.Es Tryz.m3 (syOf Zw.t287)) 100000 100000 Zw.p2 (Zw.d78.st 8 []) 1) = true := by kernel_rfl
end
end Go.Proofs
