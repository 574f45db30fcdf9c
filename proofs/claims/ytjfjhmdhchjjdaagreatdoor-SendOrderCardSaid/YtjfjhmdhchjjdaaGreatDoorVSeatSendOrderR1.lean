/- Pieces of the law's run, from node to node, answered by the executor. No conditions. -/
import Derived.Test.YtjfjhmdhchjjdaaGreatDoorVSeatSendOrderNd
set_option linter.all false
namespace Go.Proofs
open Go Go.Vsx
set_option maxRecDepth 1000000
noncomputable section
noncomputable def Zw.t0 : List SE := ncL [⟨.bin .rem, (ch 1000), (.int .i64 12), (ch 1002)⟩,
  ⟨.bin .add, (ch 1002), (.int .i64 12), (ch 1003)⟩,
  ⟨.bin .rem, (ch 1003), (.int .i64 12), (.int .i64 0)⟩]
theorem Zw.i0 : Zw.d0.sub 8 [] (idl 8 Zw.d0.objs) (idA 2) (Zw.d0.st 8 []) = true := by kernel_rfl
theorem Zw.r0 : leafNext (fK (Tryz.Es Tryz.m3 (syOf Zw.t0)) 100000 100000 Zw.pS (Zw.d0.st 8 []) 1) 8 Zw.d1 [(10, 10), (11, 12), (12, 11)] [(ch 1001), (.int .i64 0)] = some Zw.p2 := by kernel_rfl
noncomputable def Zw.t3 : List SE := ncL [⟨.bin .rem, (ch 1000), (.int .i64 12), (ch 1002)⟩,
  ⟨.bin .add, (ch 1002), (.int .i64 12), (ch 1003)⟩,
  ⟨.bin .rem, (ch 1003), (.int .i64 12), (.int .i64 3)⟩]
theorem Zw.i3 : Zw.d0.sub 8 [] (idl 8 Zw.d0.objs) (idA 2) (Zw.d0.st 8 []) = true := by kernel_rfl
theorem Zw.r3 : leafNext (fK (Tryz.Es Tryz.m3 (syOf Zw.t3)) 100000 100000 Zw.pS (Zw.d0.st 8 []) 4) 8 Zw.d4 [(10, 10), (11, 12), (12, 31), (13, 36), (14, 11), (15, 18), (16, 26), (17, 34)] [(ch 1001), (.int .i64 0)] = some Zw.p2 := by kernel_rfl
noncomputable def Zw.t6 : List SE := ncL [⟨.bin .rem, (ch 1000), (.int .i64 12), (ch 1002)⟩,
  ⟨.bin .add, (ch 1002), (.int .i64 12), (ch 1003)⟩,
  ⟨.bin .rem, (ch 1003), (.int .i64 12), (.int .i64 6)⟩]
theorem Zw.i6 : Zw.d0.sub 8 [] (idl 8 Zw.d0.objs) (idA 2) (Zw.d0.st 8 []) = true := by kernel_rfl
theorem Zw.r6 : leafNext (fK (Tryz.Es Tryz.m3 (syOf Zw.t6)) 100000 100000 Zw.pS (Zw.d0.st 8 []) 7) 8 Zw.d7 [(10, 10), (11, 12), (12, 55), (13, 60), (14, 11), (15, 18), (16, 26), (17, 34), (18, 42), (19, 50), (20, 58)] [(ch 1001), (.int .i64 0)] = some Zw.p2 := by kernel_rfl
noncomputable def Zw.t9 : List SE := ncL [⟨.bin .rem, (ch 1000), (.int .i64 12), (ch 1002)⟩,
  ⟨.bin .add, (ch 1002), (.int .i64 12), (ch 1003)⟩,
  ⟨.bin .rem, (ch 1003), (.int .i64 12), (.int .i64 9)⟩]
theorem Zw.i9 : Zw.d0.sub 8 [] (idl 8 Zw.d0.objs) (idA 2) (Zw.d0.st 8 []) = true := by kernel_rfl
theorem Zw.r9 : leafNext (fK (Tryz.Es Tryz.m3 (syOf Zw.t9)) 100000 100000 Zw.pS (Zw.d0.st 8 []) 10) 8 Zw.d10 [(10, 10), (11, 12), (12, 79), (13, 84), (14, 11), (15, 18), (16, 26), (17, 34), (18, 42), (19, 50), (20, 58), (21, 66), (22, 74), (23, 82)] [(ch 1001), (.int .i64 0)] = some Zw.p2 := by kernel_rfl
noncomputable def Zw.t12 : List SE := ncL [Zw.sl 1001 200]
theorem Zw.i12 : Zw.d1.sub 8 [] (idl 8 Zw.d1.objs) (idA 2) (Zw.d1.st 8 []) = true := by kernel_rfl
theorem Zw.r12 : leafFin (Tryz.Es Tryz.m3 (syOf Zw.t12)) Tryz.f6 (fK (Tryz.Es Tryz.m3 (syOf Zw.t12)) 100000 100000 Zw.p2 (Zw.d1.st 8 []) 1) = true := by kernel_rfl
noncomputable def Zw.t15 : List SE := ncL [Zw.sl 1001 200,
  Zw.sl 1001 100,
  ⟨.len, (ch 1000), (.int .i64 0), (ch 1002)⟩,
  ⟨.bin .lss, (ch 1001), (ch 1002), (.bool false)⟩,
  ⟨.bin .add, (ch 1001), (.int .i64 1), (ch 1003)⟩]
theorem Zw.i15 : Zw.d2.sub 8 [] (idl 8 Zw.d2.objs) (idA 2) (Zw.d2.st 8 []) = true := by kernel_rfl
theorem Zw.r15 : leafNext (fK (Tryz.Es Tryz.m3 (syOf Zw.t15)) 100000 100000 Zw.p2 (Zw.d2.st 8 []) 1) 8 Zw.d13 [(10, 10), (11, 11), (12, 12), (13, 19), (14, 13), (15, 14), (16, 17), (17, 15)] [(ch 1000), (ch 1003)] = some Zw.p2 := by kernel_rfl
noncomputable def Zw.t18 : List SE := ncL [Zw.sl 1001 200,
  Zw.sl 1001 100,
  ⟨.len, (ch 1000), (.int .i64 0), (ch 1002)⟩,
  ⟨.bin .lss, (ch 1001), (ch 1002), (.bool true)⟩,
  ⟨.idx 1, (ch 1000), (ch 1001), (.pointer (some ⟨8, 0, none⟩))⟩,
  ⟨.bin .add, (ch 1001), (.int .i64 1), (ch 1003)⟩]
theorem Zw.i18 : Zw.d3.sub 8 [[(.bool false)]] (idl 8 Zw.d3.objs) (idA 2) (Zw.d3.st 8 []) = true := by kernel_rfl
theorem Zw.r18 : leafNext (fK (Tryz.Es Tryz.m3 (syOf Zw.t18)) 100000 100000 Zw.p2 (Zw.d3.st 8 [[(.bool false)]]) 1) 8 Zw.d14 [(10, 10), (11, 11), (12, 12), (13, 20), (14, 13), (15, 14), (16, 18), (17, 15), (18, 16)] [(ch 1000), (ch 1003)] = some Zw.p2 := by kernel_rfl
noncomputable def Zw.t21 : List SE := ncL [Zw.sl 1001 200,
  Zw.sl 1001 100,
  ⟨.len, (ch 1000), (.int .i64 0), (ch 1002)⟩,
  ⟨.bin .lss, (ch 1001), (ch 1002), (.bool true)⟩,
  ⟨.idx 1, (ch 1000), (ch 1001), (.pointer (some ⟨8, 0, none⟩))⟩,
  ⟨.bin .add, (ch 1001), (.int .i64 1), (ch 1003)⟩]
theorem Zw.i21 : Zw.d4.sub 8 [[(.bool true)]] (idl 8 Zw.d4.objs) (idA 2) (Zw.d4.st 8 []) = true := by kernel_rfl
theorem Zw.r21 : leafNext (fK (Tryz.Es Tryz.m3 (syOf Zw.t21)) 100000 100000 Zw.p2 (Zw.d4.st 8 [[(.bool true)]]) 1) 8 Zw.d4 [(10, 10), (11, 11), (12, 12), (13, 13), (14, 14), (15, 15), (16, 16), (17, 17)] [(ch 1000), (ch 1003)] = some Zw.p2 := by kernel_rfl
noncomputable def Zw.t24 : List SE := ncL [Zw.sl 1001 200,
  ⟨.bin .lss, (ch 1001), (.int .i64 100), (.bool false)⟩,
  ⟨.bin .add, (ch 1001), (.int .i64 1), (ch 1002)⟩]
theorem Zw.i24 : Zw.d4.sub 8 [] (idl 8 Zw.d4.objs) (idA 2) (Zw.d4.st 8 []) = true := by kernel_rfl
theorem Zw.r24 : leafNext (fK (Tryz.Es Tryz.m3 (syOf Zw.t24)) 100000 100000 Zw.p2 (Zw.d4.st 8 []) 1) 8 Zw.d15 [(10, 10), (11, 11), (12, 12), (13, 21), (14, 13), (15, 14), (16, 19), (17, 15), (18, 16), (19, 17)] [(ch 1000), (ch 1002)] = some Zw.p2 := by kernel_rfl
noncomputable def Zw.t27 : List SE := ncL [Zw.sl 1001 200,
  Zw.sl 1001 100,
  ⟨.len, (ch 1000), (.int .i64 0), (ch 1002)⟩,
  ⟨.bin .lss, (ch 1001), (ch 1002), (.bool false)⟩,
  ⟨.bin .add, (ch 1001), (.int .i64 1), (ch 1003)⟩]
theorem Zw.i27 : Zw.d5.sub 8 [] (idl 8 Zw.d5.objs) (idA 2) (Zw.d5.st 8 []) = true := by kernel_rfl
theorem Zw.r27 : leafNext (fK (Tryz.Es Tryz.m3 (syOf Zw.t27)) 100000 100000 Zw.p2 (Zw.d5.st 8 []) 1) 8 Zw.d16 [(10, 10), (11, 11), (12, 12), (13, 22), (14, 13), (15, 14), (16, 20), (17, 15), (18, 16), (19, 17), (20, 18)] [(ch 1000), (ch 1003)] = some Zw.p2 := by kernel_rfl
noncomputable def Zw.t30 : List SE := ncL [Zw.sl 1001 200,
  Zw.sl 1001 100,
  ⟨.len, (ch 1000), (.int .i64 0), (ch 1002)⟩,
  ⟨.bin .lss, (ch 1001), (ch 1002), (.bool true)⟩,
  ⟨.idx 1, (ch 1000), (ch 1001), (.pointer (some ⟨8, 0, none⟩))⟩,
  ⟨.bin .add, (ch 1001), (.int .i64 1), (ch 1003)⟩]
theorem Zw.i30 : Zw.d6.sub 8 [[(.bool false)]] (idl 8 Zw.d6.objs) (idA 2) (Zw.d6.st 8 []) = true := by kernel_rfl
theorem Zw.r30 : leafNext (fK (Tryz.Es Tryz.m3 (syOf Zw.t30)) 100000 100000 Zw.p2 (Zw.d6.st 8 [[(.bool false)]]) 1) 8 Zw.d17 [(10, 10), (11, 11), (12, 12), (13, 23), (14, 13), (15, 14), (16, 21), (17, 15), (18, 16), (19, 17), (20, 18), (21, 19)] [(ch 1000), (ch 1003)] = some Zw.p2 := by kernel_rfl
noncomputable def Zw.t33 : List SE := ncL [Zw.sl 1001 200,
  Zw.sl 1001 100,
  ⟨.len, (ch 1000), (.int .i64 0), (ch 1002)⟩,
  ⟨.bin .lss, (ch 1001), (ch 1002), (.bool true)⟩,
  ⟨.idx 1, (ch 1000), (ch 1001), (.pointer (some ⟨8, 0, none⟩))⟩,
  ⟨.bin .add, (ch 1001), (.int .i64 1), (ch 1003)⟩]
theorem Zw.i33 : Zw.d7.sub 8 [[(.bool true)]] (idl 8 Zw.d7.objs) (idA 2) (Zw.d7.st 8 []) = true := by kernel_rfl
theorem Zw.r33 : leafNext (fK (Tryz.Es Tryz.m3 (syOf Zw.t33)) 100000 100000 Zw.p2 (Zw.d7.st 8 [[(.bool true)]]) 1) 8 Zw.d7 [(10, 10), (11, 11), (12, 12), (13, 13), (14, 14), (15, 15), (16, 16), (17, 17), (18, 18), (19, 19), (20, 20)] [(ch 1000), (ch 1003)] = some Zw.p2 := by kernel_rfl
noncomputable def Zw.t36 : List SE := ncL [Zw.sl 1001 200,
  ⟨.bin .lss, (ch 1001), (.int .i64 100), (.bool false)⟩,
  ⟨.bin .add, (ch 1001), (.int .i64 1), (ch 1002)⟩]
theorem Zw.i36 : Zw.d7.sub 8 [] (idl 8 Zw.d7.objs) (idA 2) (Zw.d7.st 8 []) = true := by kernel_rfl
theorem Zw.r36 : leafNext (fK (Tryz.Es Tryz.m3 (syOf Zw.t36)) 100000 100000 Zw.p2 (Zw.d7.st 8 []) 1) 8 Zw.d18 [(10, 10), (11, 11), (12, 12), (13, 24), (14, 13), (15, 14), (16, 22), (17, 15), (18, 16), (19, 17), (20, 18), (21, 19), (22, 20)] [(ch 1000), (ch 1002)] = some Zw.p2 := by kernel_rfl
noncomputable def Zw.t39 : List SE := ncL [Zw.sl 1001 200,
  Zw.sl 1001 100,
  ⟨.len, (ch 1000), (.int .i64 0), (ch 1002)⟩,
  ⟨.bin .lss, (ch 1001), (ch 1002), (.bool false)⟩,
  ⟨.bin .add, (ch 1001), (.int .i64 1), (ch 1003)⟩]
theorem Zw.i39 : Zw.d8.sub 8 [] (idl 8 Zw.d8.objs) (idA 2) (Zw.d8.st 8 []) = true := by kernel_rfl
theorem Zw.r39 : leafNext (fK (Tryz.Es Tryz.m3 (syOf Zw.t39)) 100000 100000 Zw.p2 (Zw.d8.st 8 []) 1) 8 Zw.d19 [(10, 10), (11, 11), (12, 12), (13, 25), (14, 13), (15, 14), (16, 23), (17, 15), (18, 16), (19, 17), (20, 18), (21, 19), (22, 20), (23, 21)] [(ch 1000), (ch 1003)] = some Zw.p2 := by kernel_rfl
noncomputable def Zw.t42 : List SE := ncL [Zw.sl 1001 200,
  Zw.sl 1001 100,
  ⟨.len, (ch 1000), (.int .i64 0), (ch 1002)⟩,
  ⟨.bin .lss, (ch 1001), (ch 1002), (.bool true)⟩,
  ⟨.idx 1, (ch 1000), (ch 1001), (.pointer (some ⟨8, 0, none⟩))⟩,
  ⟨.bin .add, (ch 1001), (.int .i64 1), (ch 1003)⟩]
theorem Zw.i42 : Zw.d9.sub 8 [[(.bool false)]] (idl 8 Zw.d9.objs) (idA 2) (Zw.d9.st 8 []) = true := by kernel_rfl
theorem Zw.r42 : leafNext (fK (Tryz.Es Tryz.m3 (syOf Zw.t42)) 100000 100000 Zw.p2 (Zw.d9.st 8 [[(.bool false)]]) 1) 8 Zw.d20 [(10, 10), (11, 11), (12, 12), (13, 26), (14, 13), (15, 14), (16, 24), (17, 15), (18, 16), (19, 17), (20, 18), (21, 19), (22, 20), (23, 21), (24, 22)] [(ch 1000), (ch 1003)] = some Zw.p2 := by kernel_rfl
noncomputable def Zw.t45 : List SE := ncL [Zw.sl 1001 200,
  Zw.sl 1001 100,
  ⟨.len, (ch 1000), (.int .i64 0), (ch 1002)⟩,
  ⟨.bin .lss, (ch 1001), (ch 1002), (.bool true)⟩,
  ⟨.idx 1, (ch 1000), (ch 1001), (.pointer (some ⟨8, 0, none⟩))⟩,
  ⟨.bin .add, (ch 1001), (.int .i64 1), (ch 1003)⟩]
theorem Zw.i45 : Zw.d10.sub 8 [[(.bool true)]] (idl 8 Zw.d10.objs) (idA 2) (Zw.d10.st 8 []) = true := by kernel_rfl
theorem Zw.r45 : leafNext (fK (Tryz.Es Tryz.m3 (syOf Zw.t45)) 100000 100000 Zw.p2 (Zw.d10.st 8 [[(.bool true)]]) 1) 8 Zw.d10 [(10, 10), (11, 11), (12, 12), (13, 13), (14, 14), (15, 15), (16, 16), (17, 17), (18, 18), (19, 19), (20, 20), (21, 21), (22, 22), (23, 23)] [(ch 1000), (ch 1003)] = some Zw.p2 := by kernel_rfl
noncomputable def Zw.t48 : List SE := ncL [Zw.sl 1001 200,
  ⟨.bin .lss, (ch 1001), (.int .i64 100), (.bool false)⟩,
  ⟨.bin .add, (ch 1001), (.int .i64 1), (ch 1002)⟩]
theorem Zw.i48 : Zw.d10.sub 8 [] (idl 8 Zw.d10.objs) (idA 2) (Zw.d10.st 8 []) = true := by kernel_rfl
theorem Zw.r48 : leafNext (fK (Tryz.Es Tryz.m3 (syOf Zw.t48)) 100000 100000 Zw.p2 (Zw.d10.st 8 []) 1) 8 Zw.d21 [(10, 10), (11, 11), (12, 12), (13, 27), (14, 13), (15, 14), (16, 25), (17, 15), (18, 16), (19, 17), (20, 18), (21, 19), (22, 20), (23, 21), (24, 22), (25, 23)] [(ch 1000), (ch 1002)] = some Zw.p2 := by kernel_rfl
noncomputable def Zw.t51 : List SE := ncL [Zw.sl 1001 200,
  Zw.sl 1001 100,
  ⟨.len, (ch 1000), (.int .i64 0), (ch 1002)⟩,
  ⟨.bin .lss, (ch 1001), (ch 1002), (.bool false)⟩,
  ⟨.bin .add, (ch 1001), (.int .i64 1), (ch 1003)⟩]
theorem Zw.i51 : Zw.d11.sub 8 [] (idl 8 Zw.d11.objs) (idA 2) (Zw.d11.st 8 []) = true := by kernel_rfl
theorem Zw.r51 : leafNext (fK (Tryz.Es Tryz.m3 (syOf Zw.t51)) 100000 100000 Zw.p2 (Zw.d11.st 8 []) 1) 8 Zw.d22 [(10, 10), (11, 11), (12, 12), (13, 28), (14, 13), (15, 14), (16, 26), (17, 15), (18, 16), (19, 17), (20, 18), (21, 19), (22, 20), (23, 21), (24, 22), (25, 23), (26, 24)] [(ch 1000), (ch 1003)] = some Zw.p2 := by kernel_rfl
noncomputable def Zw.t54 : List SE := ncL [Zw.sl 1001 200,
  Zw.sl 1001 100,
  ⟨.len, (ch 1000), (.int .i64 0), (ch 1002)⟩,
  ⟨.bin .lss, (ch 1001), (ch 1002), (.bool true)⟩,
  ⟨.idx 1, (ch 1000), (ch 1001), (.pointer (some ⟨8, 0, none⟩))⟩,
  ⟨.bin .add, (ch 1001), (.int .i64 1), (ch 1003)⟩]
theorem Zw.i54 : Zw.d12.sub 8 [[(.bool false)]] (idl 8 Zw.d12.objs) (idA 2) (Zw.d12.st 8 []) = true := by kernel_rfl
theorem Zw.r54 : leafNext (fK (Tryz.Es Tryz.m3 (syOf Zw.t54)) 100000 100000 Zw.p2 (Zw.d12.st 8 [[(.bool false)]]) 1) 8 Zw.d23 [(10, 10), (11, 11), (12, 12), (13, 29), (14, 13), (15, 14), (16, 27), (17, 15), (18, 16), (19, 17), (20, 18), (21, 19), (22, 20), (23, 21), (24, 22), (25, 23), (26, 24), (27, 25)] [(ch 1000), (ch 1003)] = some Zw.p2 := by kernel_rfl
noncomputable def Zw.t57 : List SE := ncL [Zw.sl 1001 200]
theorem Zw.i57 : Zw.d13.sub 8 [] (idl 8 Zw.d13.objs) (idA 2) (Zw.d13.st 8 []) = true := by kernel_rfl
theorem Zw.r57 : leafFin (Tryz.Es Tryz.m3 (syOf Zw.t57)) Tryz.f6 (fK (Tryz.Es Tryz.m3 (syOf Zw.t57)) 100000 100000 Zw.p2 (Zw.d13.st 8 []) 1) = true := by kernel_rfl
noncomputable def Zw.t60 : List SE := ncL [Zw.sl 1001 200,
  Zw.sl 1001 100,
  ⟨.len, (ch 1000), (.int .i64 0), (ch 1002)⟩,
  ⟨.bin .lss, (ch 1001), (ch 1002), (.bool false)⟩,
  ⟨.bin .add, (ch 1001), (.int .i64 1), (ch 1003)⟩]
theorem Zw.i60 : Zw.d14.sub 8 [] (idl 8 Zw.d14.objs) (idA 2) (Zw.d14.st 8 []) = true := by kernel_rfl
theorem Zw.r60 : leafNext (fK (Tryz.Es Tryz.m3 (syOf Zw.t60)) 100000 100000 Zw.p2 (Zw.d14.st 8 []) 1) 8 Zw.d24 [(10, 10), (11, 11), (12, 12), (13, 23), (14, 14), (15, 15), (16, 16), (17, 21), (18, 17), (19, 18)] [(ch 1000), (ch 1003)] = some Zw.p2 := by kernel_rfl
noncomputable def Zw.t63 : List SE := ncL [Zw.sl 1001 200,
  Zw.sl 1001 100,
  ⟨.len, (ch 1000), (.int .i64 0), (ch 1002)⟩,
  ⟨.bin .lss, (ch 1001), (ch 1002), (.bool true)⟩,
  ⟨.idx 1, (ch 1000), (ch 1001), (.pointer (some ⟨8, 0, none⟩))⟩,
  ⟨.bin .add, (ch 1001), (.int .i64 1), (ch 1003)⟩]
theorem Zw.i63 : Zw.d15.sub 8 [[(.bool false)]] (idl 8 Zw.d15.objs) (idA 2) (Zw.d15.st 8 []) = true := by kernel_rfl
theorem Zw.r63 : leafNext (fK (Tryz.Es Tryz.m3 (syOf Zw.t63)) 100000 100000 Zw.p2 (Zw.d15.st 8 [[(.bool false)]]) 1) 8 Zw.d25 [(10, 10), (11, 11), (12, 12), (13, 24), (14, 14), (15, 15), (16, 16), (17, 22), (18, 17), (19, 18), (20, 19)] [(ch 1000), (ch 1003)] = some Zw.p2 := by kernel_rfl
noncomputable def Zw.t66 : List SE := ncL [Zw.sl 1001 200,
  Zw.sl 1001 100,
  ⟨.len, (ch 1000), (.int .i64 0), (ch 1002)⟩,
  ⟨.bin .lss, (ch 1001), (ch 1002), (.bool true)⟩,
  ⟨.idx 1, (ch 1000), (ch 1001), (.pointer (some ⟨8, 0, none⟩))⟩,
  ⟨.bin .add, (ch 1001), (.int .i64 1), (ch 1003)⟩]
theorem Zw.i66 : Zw.d16.sub 8 [[(.bool true)]] (idl 8 Zw.d16.objs) (idA 2) (Zw.d16.st 8 []) = true := by kernel_rfl
theorem Zw.r66 : leafNext (fK (Tryz.Es Tryz.m3 (syOf Zw.t66)) 100000 100000 Zw.p2 (Zw.d16.st 8 [[(.bool true)]]) 1) 8 Zw.d16 [(10, 10), (11, 11), (12, 12), (13, 13), (14, 14), (15, 15), (16, 16), (17, 17), (18, 18), (19, 19), (20, 20)] [(ch 1000), (ch 1003)] = some Zw.p2 := by kernel_rfl
noncomputable def Zw.t69 : List SE := ncL [Zw.sl 1001 200,
  ⟨.bin .lss, (ch 1001), (.int .i64 100), (.bool false)⟩,
  ⟨.bin .add, (ch 1001), (.int .i64 1), (ch 1002)⟩]
theorem Zw.i69 : Zw.d16.sub 8 [] (idl 8 Zw.d16.objs) (idA 2) (Zw.d16.st 8 []) = true := by kernel_rfl
theorem Zw.r69 : leafNext (fK (Tryz.Es Tryz.m3 (syOf Zw.t69)) 100000 100000 Zw.p2 (Zw.d16.st 8 []) 1) 8 Zw.d26 [(10, 10), (11, 11), (12, 12), (13, 25), (14, 14), (15, 15), (16, 16), (17, 23), (18, 17), (19, 18), (20, 19), (21, 20)] [(ch 1000), (ch 1002)] = some Zw.p2 := by kernel_rfl
noncomputable def Zw.t72 : List SE := ncL [Zw.sl 1001 200,
  Zw.sl 1001 100,
  ⟨.len, (ch 1000), (.int .i64 0), (ch 1002)⟩,
  ⟨.bin .lss, (ch 1001), (ch 1002), (.bool false)⟩,
  ⟨.bin .add, (ch 1001), (.int .i64 1), (ch 1003)⟩]
theorem Zw.i72 : Zw.d17.sub 8 [] (idl 8 Zw.d17.objs) (idA 2) (Zw.d17.st 8 []) = true := by kernel_rfl
theorem Zw.r72 : leafNext (fK (Tryz.Es Tryz.m3 (syOf Zw.t72)) 100000 100000 Zw.p2 (Zw.d17.st 8 []) 1) 8 Zw.d27 [(10, 10), (11, 11), (12, 12), (13, 26), (14, 14), (15, 15), (16, 16), (17, 24), (18, 17), (19, 18), (20, 19), (21, 20), (22, 21)] [(ch 1000), (ch 1003)] = some Zw.p2 := by kernel_rfl
noncomputable def Zw.t75 : List SE := ncL [Zw.sl 1001 200,
  Zw.sl 1001 100,
  ⟨.len, (ch 1000), (.int .i64 0), (ch 1002)⟩,
  ⟨.bin .lss, (ch 1001), (ch 1002), (.bool true)⟩,
  ⟨.idx 1, (ch 1000), (ch 1001), (.pointer (some ⟨8, 0, none⟩))⟩,
  ⟨.bin .add, (ch 1001), (.int .i64 1), (ch 1003)⟩]
theorem Zw.i75 : Zw.d18.sub 8 [[(.bool false)]] (idl 8 Zw.d18.objs) (idA 2) (Zw.d18.st 8 []) = true := by kernel_rfl
theorem Zw.r75 : leafNext (fK (Tryz.Es Tryz.m3 (syOf Zw.t75)) 100000 100000 Zw.p2 (Zw.d18.st 8 [[(.bool false)]]) 1) 8 Zw.d28 [(10, 10), (11, 11), (12, 12), (13, 27), (14, 14), (15, 15), (16, 16), (17, 25), (18, 17), (19, 18), (20, 19), (21, 20), (22, 21), (23, 22)] [(ch 1000), (ch 1003)] = some Zw.p2 := by kernel_rfl
noncomputable def Zw.t78 : List SE := ncL [Zw.sl 1001 200,
  Zw.sl 1001 100,
  ⟨.len, (ch 1000), (.int .i64 0), (ch 1002)⟩,
  ⟨.bin .lss, (ch 1001), (ch 1002), (.bool true)⟩,
  ⟨.idx 1, (ch 1000), (ch 1001), (.pointer (some ⟨8, 0, none⟩))⟩,
  ⟨.bin .add, (ch 1001), (.int .i64 1), (ch 1003)⟩]
theorem Zw.i78 : Zw.d19.sub 8 [[(.bool true)]] (idl 8 Zw.d19.objs) (idA 2) (Zw.d19.st 8 []) = true := by kernel_rfl
theorem Zw.r78 : leafNext (fK (Tryz.Es Tryz.m3 (syOf Zw.t78)) 100000 100000 Zw.p2 (Zw.d19.st 8 [[(.bool true)]]) 1) 8 Zw.d19 [(10, 10), (11, 11), (12, 12), (13, 13), (14, 14), (15, 15), (16, 16), (17, 17), (18, 18), (19, 19), (20, 20), (21, 21), (22, 22), (23, 23)] [(ch 1000), (ch 1003)] = some Zw.p2 := by kernel_rfl
noncomputable def Zw.t81 : List SE := ncL [Zw.sl 1001 200,
  ⟨.bin .lss, (ch 1001), (.int .i64 100), (.bool false)⟩,
  ⟨.bin .add, (ch 1001), (.int .i64 1), (ch 1002)⟩]
theorem Zw.i81 : Zw.d19.sub 8 [] (idl 8 Zw.d19.objs) (idA 2) (Zw.d19.st 8 []) = true := by kernel_rfl
theorem Zw.r81 : leafNext (fK (Tryz.Es Tryz.m3 (syOf Zw.t81)) 100000 100000 Zw.p2 (Zw.d19.st 8 []) 1) 8 Zw.d29 [(10, 10), (11, 11), (12, 12), (13, 28), (14, 14), (15, 15), (16, 16), (17, 26), (18, 17), (19, 18), (20, 19), (21, 20), (22, 21), (23, 22), (24, 23)] [(ch 1000), (ch 1002)] = some Zw.p2 := by kernel_rfl
noncomputable def Zw.t84 : List SE := ncL [Zw.sl 1001 200,
  Zw.sl 1001 100,
  ⟨.len, (ch 1000), (.int .i64 0), (ch 1002)⟩,
  ⟨.bin .lss, (ch 1001), (ch 1002), (.bool false)⟩,
  ⟨.bin .add, (ch 1001), (.int .i64 1), (ch 1003)⟩]
theorem Zw.i84 : Zw.d20.sub 8 [] (idl 8 Zw.d20.objs) (idA 2) (Zw.d20.st 8 []) = true := by kernel_rfl
theorem Zw.r84 : leafNext (fK (Tryz.Es Tryz.m3 (syOf Zw.t84)) 100000 100000 Zw.p2 (Zw.d20.st 8 []) 1) 8 Zw.d30 [(10, 10), (11, 11), (12, 12), (13, 29), (14, 14), (15, 15), (16, 16), (17, 27), (18, 17), (19, 18), (20, 19), (21, 20), (22, 21), (23, 22), (24, 23), (25, 24)] [(ch 1000), (ch 1003)] = some Zw.p2 := by kernel_rfl
noncomputable def Zw.t87 : List SE := ncL [Zw.sl 1001 200,
  Zw.sl 1001 100,
  ⟨.len, (ch 1000), (.int .i64 0), (ch 1002)⟩,
  ⟨.bin .lss, (ch 1001), (ch 1002), (.bool true)⟩,
  ⟨.idx 1, (ch 1000), (ch 1001), (.pointer (some ⟨8, 0, none⟩))⟩,
  ⟨.bin .add, (ch 1001), (.int .i64 1), (ch 1003)⟩]
theorem Zw.i87 : Zw.d21.sub 8 [[(.bool false)]] (idl 8 Zw.d21.objs) (idA 2) (Zw.d21.st 8 []) = true := by kernel_rfl
theorem Zw.r87 : leafNext (fK (Tryz.Es Tryz.m3 (syOf Zw.t87)) 100000 100000 Zw.p2 (Zw.d21.st 8 [[(.bool false)]]) 1) 8 Zw.d31 [(10, 10), (11, 11), (12, 12), (13, 30), (14, 14), (15, 15), (16, 16), (17, 28), (18, 17), (19, 18), (20, 19), (21, 20), (22, 21), (23, 22), (24, 23), (25, 24), (26, 25)] [(ch 1000), (ch 1003)] = some Zw.p2 := by kernel_rfl
noncomputable def Zw.t90 : List SE := ncL [Zw.sl 1001 200,
  Zw.sl 1001 100,
  ⟨.len, (ch 1000), (.int .i64 0), (ch 1002)⟩,
  ⟨.bin .lss, (ch 1001), (ch 1002), (.bool true)⟩,
  ⟨.idx 1, (ch 1000), (ch 1001), (.pointer (some ⟨8, 0, none⟩))⟩,
  ⟨.bin .add, (ch 1001), (.int .i64 1), (ch 1003)⟩]
theorem Zw.i90 : Zw.d22.sub 8 [[(.bool true)]] (idl 8 Zw.d22.objs) (idA 2) (Zw.d22.st 8 []) = true := by kernel_rfl
theorem Zw.r90 : leafNext (fK (Tryz.Es Tryz.m3 (syOf Zw.t90)) 100000 100000 Zw.p2 (Zw.d22.st 8 [[(.bool true)]]) 1) 8 Zw.d22 [(10, 10), (11, 11), (12, 12), (13, 13), (14, 14), (15, 15), (16, 16), (17, 17), (18, 18), (19, 19), (20, 20), (21, 21), (22, 22), (23, 23), (24, 24), (25, 25), (26, 26)] [(ch 1000), (ch 1003)] = some Zw.p2 := by kernel_rfl
noncomputable def Zw.t93 : List SE := ncL [Zw.sl 1001 200,
  ⟨.bin .lss, (ch 1001), (.int .i64 100), (.bool false)⟩,
  ⟨.bin .add, (ch 1001), (.int .i64 1), (ch 1002)⟩]
theorem Zw.i93 : Zw.d22.sub 8 [] (idl 8 Zw.d22.objs) (idA 2) (Zw.d22.st 8 []) = true := by kernel_rfl
theorem Zw.r93 : leafNext (fK (Tryz.Es Tryz.m3 (syOf Zw.t93)) 100000 100000 Zw.p2 (Zw.d22.st 8 []) 1) 8 Zw.d32 [(10, 10), (11, 11), (12, 12), (13, 31), (14, 14), (15, 15), (16, 16), (17, 29), (18, 17), (19, 18), (20, 19), (21, 20), (22, 21), (23, 22), (24, 23), (25, 24), (26, 25), (27, 26)] [(ch 1000), (ch 1002)] = some Zw.p2 := by kernel_rfl
noncomputable def Zw.t96 : List SE := ncL [Zw.sl 1001 200,
  Zw.sl 1001 100,
  ⟨.len, (ch 1000), (.int .i64 0), (ch 1002)⟩,
  ⟨.bin .lss, (ch 1001), (ch 1002), (.bool false)⟩,
  ⟨.bin .add, (ch 1001), (.int .i64 1), (ch 1003)⟩]
theorem Zw.i96 : Zw.d23.sub 8 [] (idl 8 Zw.d23.objs) (idA 2) (Zw.d23.st 8 []) = true := by kernel_rfl
theorem Zw.r96 : leafNext (fK (Tryz.Es Tryz.m3 (syOf Zw.t96)) 100000 100000 Zw.p2 (Zw.d23.st 8 []) 1) 8 Zw.d33 [(10, 10), (11, 11), (12, 12), (13, 32), (14, 14), (15, 15), (16, 16), (17, 30), (18, 17), (19, 18), (20, 19), (21, 20), (22, 21), (23, 22), (24, 23), (25, 24), (26, 25), (27, 26), (28, 27)] [(ch 1000), (ch 1003)] = some Zw.p2 := by kernel_rfl
noncomputable def Zw.t99 : List SE := ncL [Zw.sl 1001 200,
  Zw.sl 1001 100,
  ⟨.len, (ch 1000), (.int .i64 0), (ch 1002)⟩,
  ⟨.bin .lss, (ch 1001), (ch 1002), (.bool true)⟩,
  ⟨.idx 1, (ch 1000), (ch 1001), (.pointer (some ⟨8, 0, none⟩))⟩,
  ⟨.bin .add, (ch 1001), (.int .i64 1), (ch 1003)⟩]
theorem Zw.i99 : Zw.d25.sub 8 [[(.bool true)]] (idl 8 Zw.d25.objs) (idA 2) (Zw.d25.st 8 []) = true := by kernel_rfl
theorem Zw.r99 : leafNext (fK (Tryz.Es Tryz.m3 (syOf Zw.t99)) 100000 100000 Zw.p2 (Zw.d25.st 8 [[(.bool true)]]) 1) 8 Zw.d25 [(10, 10), (11, 11), (12, 12), (13, 13), (14, 14), (15, 15), (16, 16), (17, 17), (18, 18), (19, 19), (20, 20)] [(ch 1000), (ch 1003)] = some Zw.p2 := by kernel_rfl
noncomputable def Zw.t102 : List SE := ncL [Zw.sl 1001 200,
  ⟨.bin .lss, (ch 1001), (.int .i64 100), (.bool false)⟩,
  ⟨.bin .add, (ch 1001), (.int .i64 1), (ch 1002)⟩]
theorem Zw.i102 : Zw.d25.sub 8 [] (idl 8 Zw.d25.objs) (idA 2) (Zw.d25.st 8 []) = true := by kernel_rfl
theorem Zw.r102 : leafNext (fK (Tryz.Es Tryz.m3 (syOf Zw.t102)) 100000 100000 Zw.p2 (Zw.d25.st 8 []) 1) 8 Zw.d34 [(10, 10), (11, 11), (12, 12), (13, 25), (14, 14), (15, 15), (16, 16), (17, 17), (18, 23), (19, 18), (20, 19), (21, 20)] [(ch 1000), (ch 1002)] = some Zw.p2 := by kernel_rfl
noncomputable def Zw.t105 : List SE := ncL [Zw.sl 1001 200,
  Zw.sl 1001 100,
  ⟨.len, (ch 1000), (.int .i64 0), (ch 1002)⟩,
  ⟨.bin .lss, (ch 1001), (ch 1002), (.bool false)⟩,
  ⟨.bin .add, (ch 1001), (.int .i64 1), (ch 1003)⟩]
theorem Zw.i105 : Zw.d26.sub 8 [] (idl 8 Zw.d26.objs) (idA 2) (Zw.d26.st 8 []) = true := by kernel_rfl
theorem Zw.r105 : leafNext (fK (Tryz.Es Tryz.m3 (syOf Zw.t105)) 100000 100000 Zw.p2 (Zw.d26.st 8 []) 1) 8 Zw.d35 [(10, 10), (11, 11), (12, 12), (13, 26), (14, 14), (15, 15), (16, 16), (17, 17), (18, 24), (19, 18), (20, 19), (21, 20), (22, 21)] [(ch 1000), (ch 1003)] = some Zw.p2 := by kernel_rfl
noncomputable def Zw.t108 : List SE := ncL [Zw.sl 1001 200,
  Zw.sl 1001 100,
  ⟨.len, (ch 1000), (.int .i64 0), (ch 1002)⟩,
  ⟨.bin .lss, (ch 1001), (ch 1002), (.bool true)⟩,
  ⟨.idx 1, (ch 1000), (ch 1001), (.pointer (some ⟨8, 0, none⟩))⟩,
  ⟨.bin .add, (ch 1001), (.int .i64 1), (ch 1003)⟩]
theorem Zw.i108 : Zw.d27.sub 8 [[(.bool false)]] (idl 8 Zw.d27.objs) (idA 2) (Zw.d27.st 8 []) = true := by kernel_rfl
theorem Zw.r108 : leafNext (fK (Tryz.Es Tryz.m3 (syOf Zw.t108)) 100000 100000 Zw.p2 (Zw.d27.st 8 [[(.bool false)]]) 1) 8 Zw.d36 [(10, 10), (11, 11), (12, 12), (13, 27), (14, 14), (15, 15), (16, 16), (17, 17), (18, 25), (19, 18), (20, 19), (21, 20), (22, 21), (23, 22)] [(ch 1000), (ch 1003)] = some Zw.p2 := by kernel_rfl
noncomputable def Zw.t111 : List SE := ncL [Zw.sl 1001 200,
  Zw.sl 1001 100,
  ⟨.len, (ch 1000), (.int .i64 0), (ch 1002)⟩,
  ⟨.bin .lss, (ch 1001), (ch 1002), (.bool true)⟩,
  ⟨.idx 1, (ch 1000), (ch 1001), (.pointer (some ⟨8, 0, none⟩))⟩,
  ⟨.bin .add, (ch 1001), (.int .i64 1), (ch 1003)⟩]
theorem Zw.i111 : Zw.d28.sub 8 [[(.bool true)]] (idl 8 Zw.d28.objs) (idA 2) (Zw.d28.st 8 []) = true := by kernel_rfl
theorem Zw.r111 : leafNext (fK (Tryz.Es Tryz.m3 (syOf Zw.t111)) 100000 100000 Zw.p2 (Zw.d28.st 8 [[(.bool true)]]) 1) 8 Zw.d28 [(10, 10), (11, 11), (12, 12), (13, 13), (14, 14), (15, 15), (16, 16), (17, 17), (18, 18), (19, 19), (20, 20), (21, 21), (22, 22), (23, 23)] [(ch 1000), (ch 1003)] = some Zw.p2 := by kernel_rfl
noncomputable def Zw.t114 : List SE := ncL [Zw.sl 1001 200,
  ⟨.bin .lss, (ch 1001), (.int .i64 100), (.bool false)⟩,
  ⟨.bin .add, (ch 1001), (.int .i64 1), (ch 1002)⟩]
theorem Zw.i114 : Zw.d28.sub 8 [] (idl 8 Zw.d28.objs) (idA 2) (Zw.d28.st 8 []) = true := by kernel_rfl
theorem Zw.r114 : leafNext (fK (Tryz.Es Tryz.m3 (syOf Zw.t114)) 100000 100000 Zw.p2 (Zw.d28.st 8 []) 1) 8 Zw.d37 [(10, 10), (11, 11), (12, 12), (13, 28), (14, 14), (15, 15), (16, 16), (17, 17), (18, 26), (19, 18), (20, 19), (21, 20), (22, 21), (23, 22), (24, 23)] [(ch 1000), (ch 1002)] = some Zw.p2 := by kernel_rfl
noncomputable def Zw.t117 : List SE := ncL [Zw.sl 1001 200,
  Zw.sl 1001 100,
  ⟨.len, (ch 1000), (.int .i64 0), (ch 1002)⟩,
  ⟨.bin .lss, (ch 1001), (ch 1002), (.bool false)⟩,
  ⟨.bin .add, (ch 1001), (.int .i64 1), (ch 1003)⟩]
theorem Zw.i117 : Zw.d29.sub 8 [] (idl 8 Zw.d29.objs) (idA 2) (Zw.d29.st 8 []) = true := by kernel_rfl
theorem Zw.r117 : leafNext (fK (Tryz.Es Tryz.m3 (syOf Zw.t117)) 100000 100000 Zw.p2 (Zw.d29.st 8 []) 1) 8 Zw.d38 [(10, 10), (11, 11), (12, 12), (13, 29), (14, 14), (15, 15), (16, 16), (17, 17), (18, 27), (19, 18), (20, 19), (21, 20), (22, 21), (23, 22), (24, 23), (25, 24)] [(ch 1000), (ch 1003)] = some Zw.p2 := by kernel_rfl
noncomputable def Zw.t120 : List SE := ncL [Zw.sl 1001 200,
  Zw.sl 1001 100,
  ⟨.len, (ch 1000), (.int .i64 0), (ch 1002)⟩,
  ⟨.bin .lss, (ch 1001), (ch 1002), (.bool true)⟩,
  ⟨.idx 1, (ch 1000), (ch 1001), (.pointer (some ⟨8, 0, none⟩))⟩,
  ⟨.bin .add, (ch 1001), (.int .i64 1), (ch 1003)⟩]
theorem Zw.i120 : Zw.d30.sub 8 [[(.bool false)]] (idl 8 Zw.d30.objs) (idA 2) (Zw.d30.st 8 []) = true := by kernel_rfl
theorem Zw.r120 : leafNext (fK (Tryz.Es Tryz.m3 (syOf Zw.t120)) 100000 100000 Zw.p2 (Zw.d30.st 8 [[(.bool false)]]) 1) 8 Zw.d39 [(10, 10), (11, 11), (12, 12), (13, 30), (14, 14), (15, 15), (16, 16), (17, 17), (18, 28), (19, 18), (20, 19), (21, 20), (22, 21), (23, 22), (24, 23), (25, 24), (26, 25)] [(ch 1000), (ch 1003)] = some Zw.p2 := by kernel_rfl
noncomputable def Zw.t123 : List SE := ncL [Zw.sl 1001 200,
  Zw.sl 1001 100,
  ⟨.len, (ch 1000), (.int .i64 0), (ch 1002)⟩,
  ⟨.bin .lss, (ch 1001), (ch 1002), (.bool true)⟩,
  ⟨.idx 1, (ch 1000), (ch 1001), (.pointer (some ⟨8, 0, none⟩))⟩,
  ⟨.bin .add, (ch 1001), (.int .i64 1), (ch 1003)⟩]
theorem Zw.i123 : Zw.d31.sub 8 [[(.bool true)]] (idl 8 Zw.d31.objs) (idA 2) (Zw.d31.st 8 []) = true := by kernel_rfl
theorem Zw.r123 : leafNext (fK (Tryz.Es Tryz.m3 (syOf Zw.t123)) 100000 100000 Zw.p2 (Zw.d31.st 8 [[(.bool true)]]) 1) 8 Zw.d31 [(10, 10), (11, 11), (12, 12), (13, 13), (14, 14), (15, 15), (16, 16), (17, 17), (18, 18), (19, 19), (20, 20), (21, 21), (22, 22), (23, 23), (24, 24), (25, 25), (26, 26)] [(ch 1000), (ch 1003)] = some Zw.p2 := by kernel_rfl
noncomputable def Zw.t126 : List SE := ncL [Zw.sl 1001 200,
  ⟨.bin .lss, (ch 1001), (.int .i64 100), (.bool false)⟩,
  ⟨.bin .add, (ch 1001), (.int .i64 1), (ch 1002)⟩]
theorem Zw.i126 : Zw.d31.sub 8 [] (idl 8 Zw.d31.objs) (idA 2) (Zw.d31.st 8 []) = true := by kernel_rfl
theorem Zw.r126 : leafNext (fK (Tryz.Es Tryz.m3 (syOf Zw.t126)) 100000 100000 Zw.p2 (Zw.d31.st 8 []) 1) 8 Zw.d40 [(10, 10), (11, 11), (12, 12), (13, 31), (14, 14), (15, 15), (16, 16), (17, 17), (18, 29), (19, 18), (20, 19), (21, 20), (22, 21), (23, 22), (24, 23), (25, 24), (26, 25), (27, 26)] [(ch 1000), (ch 1002)] = some Zw.p2 := by kernel_rfl
noncomputable def Zw.t129 : List SE := ncL [Zw.sl 1001 200,
  Zw.sl 1001 100,
  ⟨.len, (ch 1000), (.int .i64 0), (ch 1002)⟩,
  ⟨.bin .lss, (ch 1001), (ch 1002), (.bool false)⟩,
  ⟨.bin .add, (ch 1001), (.int .i64 1), (ch 1003)⟩]
theorem Zw.i129 : Zw.d32.sub 8 [] (idl 8 Zw.d32.objs) (idA 2) (Zw.d32.st 8 []) = true := by kernel_rfl
theorem Zw.r129 : leafNext (fK (Tryz.Es Tryz.m3 (syOf Zw.t129)) 100000 100000 Zw.p2 (Zw.d32.st 8 []) 1) 8 Zw.d41 [(10, 10), (11, 11), (12, 12), (13, 32), (14, 14), (15, 15), (16, 16), (17, 17), (18, 30), (19, 18), (20, 19), (21, 20), (22, 21), (23, 22), (24, 23), (25, 24), (26, 25), (27, 26), (28, 27)] [(ch 1000), (ch 1003)] = some Zw.p2 := by kernel_rfl
noncomputable def Zw.t132 : List SE := ncL [Zw.sl 1001 200,
  Zw.sl 1001 100,
  ⟨.len, (ch 1000), (.int .i64 0), (ch 1002)⟩,
  ⟨.bin .lss, (ch 1001), (ch 1002), (.bool true)⟩,
  ⟨.idx 1, (ch 1000), (ch 1001), (.pointer (some ⟨8, 0, none⟩))⟩,
  ⟨.bin .add, (ch 1001), (.int .i64 1), (ch 1003)⟩]
theorem Zw.i132 : Zw.d33.sub 8 [[(.bool false)]] (idl 8 Zw.d33.objs) (idA 2) (Zw.d33.st 8 []) = true := by kernel_rfl
theorem Zw.r132 : leafNext (fK (Tryz.Es Tryz.m3 (syOf Zw.t132)) 100000 100000 Zw.p2 (Zw.d33.st 8 [[(.bool false)]]) 1) 8 Zw.d42 [(10, 10), (11, 11), (12, 12), (13, 33), (14, 14), (15, 15), (16, 16), (17, 17), (18, 31), (19, 18), (20, 19), (21, 20), (22, 21), (23, 22), (24, 23), (25, 24), (26, 25), (27, 26), (28, 27), (29, 28)] [(ch 1000), (ch 1003)] = some Zw.p2 := by kernel_rfl
noncomputable def Zw.t135 : List SE := ncL [Zw.sl 1001 200]
theorem Zw.i135 : Zw.d34.sub 8 [] (idl 8 Zw.d34.objs) (idA 2) (Zw.d34.st 8 []) = true := by kernel_rfl
theorem Zw.r135 : leafFin (Tryz.Es Tryz.m3 (syOf Zw.t135)) Tryz.f6 (fK (Tryz.Es Tryz.m3 (syOf Zw.t135)) 100000 100000 Zw.p2 (Zw.d34.st 8 []) 1) = true := by kernel_rfl
noncomputable def Zw.t138 : List SE := ncL [Zw.sl 1001 200,
  Zw.sl 1001 100,
  ⟨.len, (ch 1000), (.int .i64 0), (ch 1002)⟩,
  ⟨.bin .lss, (ch 1001), (ch 1002), (.bool false)⟩,
  ⟨.bin .add, (ch 1001), (.int .i64 1), (ch 1003)⟩]
theorem Zw.i138 : Zw.d35.sub 8 [] (idl 8 Zw.d35.objs) (idA 2) (Zw.d35.st 8 []) = true := by kernel_rfl
theorem Zw.r138 : leafNext (fK (Tryz.Es Tryz.m3 (syOf Zw.t138)) 100000 100000 Zw.p2 (Zw.d35.st 8 []) 1) 8 Zw.d43 [(10, 10), (11, 11), (12, 12), (13, 28), (14, 14), (15, 15), (16, 16), (17, 17), (18, 18), (19, 26), (20, 19), (21, 20), (22, 21), (23, 22)] [(ch 1000), (ch 1003)] = some Zw.p2 := by kernel_rfl
noncomputable def Zw.t141 : List SE := ncL [Zw.sl 1001 200,
  Zw.sl 1001 100,
  ⟨.len, (ch 1000), (.int .i64 0), (ch 1002)⟩,
  ⟨.bin .lss, (ch 1001), (ch 1002), (.bool true)⟩,
  ⟨.idx 1, (ch 1000), (ch 1001), (.pointer (some ⟨8, 0, none⟩))⟩,
  ⟨.bin .add, (ch 1001), (.int .i64 1), (ch 1003)⟩]
theorem Zw.i141 : Zw.d36.sub 8 [[(.bool false)]] (idl 8 Zw.d36.objs) (idA 2) (Zw.d36.st 8 []) = true := by kernel_rfl
theorem Zw.r141 : leafNext (fK (Tryz.Es Tryz.m3 (syOf Zw.t141)) 100000 100000 Zw.p2 (Zw.d36.st 8 [[(.bool false)]]) 1) 8 Zw.d44 [(10, 10), (11, 11), (12, 12), (13, 29), (14, 14), (15, 15), (16, 16), (17, 17), (18, 18), (19, 27), (20, 19), (21, 20), (22, 21), (23, 22), (24, 23)] [(ch 1000), (ch 1003)] = some Zw.p2 := by kernel_rfl
noncomputable def Zw.t144 : List SE := ncL [Zw.sl 1001 200,
  Zw.sl 1001 100,
  ⟨.len, (ch 1000), (.int .i64 0), (ch 1002)⟩,
  ⟨.bin .lss, (ch 1001), (ch 1002), (.bool true)⟩,
  ⟨.idx 1, (ch 1000), (ch 1001), (.pointer (some ⟨8, 0, none⟩))⟩,
  ⟨.bin .add, (ch 1001), (.int .i64 1), (ch 1003)⟩]
theorem Zw.i144 : Zw.d37.sub 8 [[(.bool true)]] (idl 8 Zw.d37.objs) (idA 2) (Zw.d37.st 8 []) = true := by kernel_rfl
theorem Zw.r144 : leafNext (fK (Tryz.Es Tryz.m3 (syOf Zw.t144)) 100000 100000 Zw.p2 (Zw.d37.st 8 [[(.bool true)]]) 1) 8 Zw.d37 [(10, 10), (11, 11), (12, 12), (13, 13), (14, 14), (15, 15), (16, 16), (17, 17), (18, 18), (19, 19), (20, 20), (21, 21), (22, 22), (23, 23), (24, 24)] [(ch 1000), (ch 1003)] = some Zw.p2 := by kernel_rfl
noncomputable def Zw.t147 : List SE := ncL [Zw.sl 1001 200,
  ⟨.bin .lss, (ch 1001), (.int .i64 100), (.bool false)⟩,
  ⟨.bin .add, (ch 1001), (.int .i64 1), (ch 1002)⟩]
theorem Zw.i147 : Zw.d37.sub 8 [] (idl 8 Zw.d37.objs) (idA 2) (Zw.d37.st 8 []) = true := by kernel_rfl
theorem Zw.r147 : leafNext (fK (Tryz.Es Tryz.m3 (syOf Zw.t147)) 100000 100000 Zw.p2 (Zw.d37.st 8 []) 1) 8 Zw.d45 [(10, 10), (11, 11), (12, 12), (13, 30), (14, 14), (15, 15), (16, 16), (17, 17), (18, 18), (19, 28), (20, 19), (21, 20), (22, 21), (23, 22), (24, 23), (25, 24)] [(ch 1000), (ch 1002)] = some Zw.p2 := by kernel_rfl
noncomputable def Zw.t150 : List SE := ncL [Zw.sl 1001 200,
  Zw.sl 1001 100,
  ⟨.len, (ch 1000), (.int .i64 0), (ch 1002)⟩,
  ⟨.bin .lss, (ch 1001), (ch 1002), (.bool false)⟩,
  ⟨.bin .add, (ch 1001), (.int .i64 1), (ch 1003)⟩]
theorem Zw.i150 : Zw.d38.sub 8 [] (idl 8 Zw.d38.objs) (idA 2) (Zw.d38.st 8 []) = true := by kernel_rfl
theorem Zw.r150 : leafNext (fK (Tryz.Es Tryz.m3 (syOf Zw.t150)) 100000 100000 Zw.p2 (Zw.d38.st 8 []) 1) 8 Zw.d46 [(10, 10), (11, 11), (12, 12), (13, 31), (14, 14), (15, 15), (16, 16), (17, 17), (18, 18), (19, 29), (20, 19), (21, 20), (22, 21), (23, 22), (24, 23), (25, 24), (26, 25)] [(ch 1000), (ch 1003)] = some Zw.p2 := by kernel_rfl
noncomputable def Zw.t153 : List SE := ncL [Zw.sl 1001 200,
  Zw.sl 1001 100,
  ⟨.len, (ch 1000), (.int .i64 0), (ch 1002)⟩,
  ⟨.bin .lss, (ch 1001), (ch 1002), (.bool true)⟩,
  ⟨.idx 1, (ch 1000), (ch 1001), (.pointer (some ⟨8, 0, none⟩))⟩,
  ⟨.bin .add, (ch 1001), (.int .i64 1), (ch 1003)⟩]
theorem Zw.i153 : Zw.d39.sub 8 [[(.bool false)]] (idl 8 Zw.d39.objs) (idA 2) (Zw.d39.st 8 []) = true := by kernel_rfl
theorem Zw.r153 : leafNext (fK (Tryz.Es Tryz.m3 (syOf Zw.t153)) 100000 100000 Zw.p2 (Zw.d39.st 8 [[(.bool false)]]) 1) 8 Zw.d47 [(10, 10), (11, 11), (12, 12), (13, 32), (14, 14), (15, 15), (16, 16), (17, 17), (18, 18), (19, 30), (20, 19), (21, 20), (22, 21), (23, 22), (24, 23), (25, 24), (26, 25), (27, 26)] [(ch 1000), (ch 1003)] = some Zw.p2 := by kernel_rfl
noncomputable def Zw.t156 : List SE := ncL [Zw.sl 1001 200,
  Zw.sl 1001 100,
  ⟨.len, (ch 1000), (.int .i64 0), (ch 1002)⟩,
  ⟨.bin .lss, (ch 1001), (ch 1002), (.bool true)⟩,
  ⟨.idx 1, (ch 1000), (ch 1001), (.pointer (some ⟨8, 0, none⟩))⟩,
  ⟨.bin .add, (ch 1001), (.int .i64 1), (ch 1003)⟩]
theorem Zw.i156 : Zw.d40.sub 8 [[(.bool true)]] (idl 8 Zw.d40.objs) (idA 2) (Zw.d40.st 8 []) = true := by kernel_rfl
theorem Zw.r156 : leafNext (fK (Tryz.Es Tryz.m3 (syOf Zw.t156)) 100000 100000 Zw.p2 (Zw.d40.st 8 [[(.bool true)]]) 1) 8 Zw.d40 [(10, 10), (11, 11), (12, 12), (13, 13), (14, 14), (15, 15), (16, 16), (17, 17), (18, 18), (19, 19), (20, 20), (21, 21), (22, 22), (23, 23), (24, 24), (25, 25), (26, 26), (27, 27)] [(ch 1000), (ch 1003)] = some Zw.p2 := by kernel_rfl
noncomputable def Zw.t159 : List SE := ncL [Zw.sl 1001 200,
  ⟨.bin .lss, (ch 1001), (.int .i64 100), (.bool false)⟩,
  ⟨.bin .add, (ch 1001), (.int .i64 1), (ch 1002)⟩]
theorem Zw.i159 : Zw.d40.sub 8 [] (idl 8 Zw.d40.objs) (idA 2) (Zw.d40.st 8 []) = true := by kernel_rfl
theorem Zw.r159 : leafNext (fK (Tryz.Es Tryz.m3 (syOf Zw.t159)) 100000 100000 Zw.p2 (Zw.d40.st 8 []) 1) 8 Zw.d48 [(10, 10), (11, 11), (12, 12), (13, 33), (14, 14), (15, 15), (16, 16), (17, 17), (18, 18), (19, 31), (20, 19), (21, 20), (22, 21), (23, 22), (24, 23), (25, 24), (26, 25), (27, 26), (28, 27)] [(ch 1000), (ch 1002)] = some Zw.p2 := by kernel_rfl
noncomputable def Zw.t162 : List SE := ncL [Zw.sl 1001 200,
  Zw.sl 1001 100,
  ⟨.len, (ch 1000), (.int .i64 0), (ch 1002)⟩,
  ⟨.bin .lss, (ch 1001), (ch 1002), (.bool false)⟩,
  ⟨.bin .add, (ch 1001), (.int .i64 1), (ch 1003)⟩]
theorem Zw.i162 : Zw.d41.sub 8 [] (idl 8 Zw.d41.objs) (idA 2) (Zw.d41.st 8 []) = true := by kernel_rfl
theorem Zw.r162 : leafNext (fK (Tryz.Es Tryz.m3 (syOf Zw.t162)) 100000 100000 Zw.p2 (Zw.d41.st 8 []) 1) 8 Zw.d49 [(10, 10), (11, 11), (12, 12), (13, 34), (14, 14), (15, 15), (16, 16), (17, 17), (18, 18), (19, 32), (20, 19), (21, 20), (22, 21), (23, 22), (24, 23), (25, 24), (26, 25), (27, 26), (28, 27), (29, 28)] [(ch 1000), (ch 1003)] = some Zw.p2 := by kernel_rfl
noncomputable def Zw.t165 : List SE := ncL [Zw.sl 1001 200,
  Zw.sl 1001 100,
  ⟨.len, (ch 1000), (.int .i64 0), (ch 1002)⟩,
  ⟨.bin .lss, (ch 1001), (ch 1002), (.bool true)⟩,
  ⟨.idx 1, (ch 1000), (ch 1001), (.pointer (some ⟨8, 0, none⟩))⟩,
  ⟨.bin .add, (ch 1001), (.int .i64 1), (ch 1003)⟩]
theorem Zw.i165 : Zw.d42.sub 8 [[(.bool false)]] (idl 8 Zw.d42.objs) (idA 2) (Zw.d42.st 8 []) = true := by kernel_rfl
theorem Zw.r165 : leafNext (fK (Tryz.Es Tryz.m3 (syOf Zw.t165)) 100000 100000 Zw.p2 (Zw.d42.st 8 [[(.bool false)]]) 1) 8 Zw.d50 [(10, 10), (11, 11), (12, 12), (13, 35), (14, 14), (15, 15), (16, 16), (17, 17), (18, 18), (19, 33), (20, 19), (21, 20), (22, 21), (23, 22), (24, 23), (25, 24), (26, 25), (27, 26), (28, 27), (29, 28), (30, 29)] [(ch 1000), (ch 1003)] = some Zw.p2 := by kernel_rfl
noncomputable def Zw.t168 : List SE := ncL [Zw.sl 1001 200]
theorem Zw.i168 : Zw.d43.sub 8 [] (idl 8 Zw.d43.objs) (idA 2) (Zw.d43.st 8 []) = true := by kernel_rfl
theorem Zw.r168 : leafFin (Tryz.Es Tryz.m3 (syOf Zw.t168)) Tryz.f6 (fK (Tryz.Es Tryz.m3 (syOf Zw.t168)) 100000 100000 Zw.p2 (Zw.d43.st 8 []) 1) = true := by kernel_rfl
noncomputable def Zw.t171 : List SE := ncL [Zw.sl 1001 200,
  Zw.sl 1001 100,
  ⟨.len, (ch 1000), (.int .i64 0), (ch 1002)⟩,
  ⟨.bin .lss, (ch 1001), (ch 1002), (.bool false)⟩,
  ⟨.bin .add, (ch 1001), (.int .i64 1), (ch 1003)⟩]
theorem Zw.i171 : Zw.d44.sub 8 [] (idl 8 Zw.d44.objs) (idA 2) (Zw.d44.st 8 []) = true := by kernel_rfl
theorem Zw.r171 : leafNext (fK (Tryz.Es Tryz.m3 (syOf Zw.t171)) 100000 100000 Zw.p2 (Zw.d44.st 8 []) 1) 8 Zw.d51 [(10, 10), (11, 11), (12, 12), (13, 30), (14, 14), (15, 15), (16, 16), (17, 17), (18, 18), (19, 19), (20, 28), (21, 20), (22, 21), (23, 22), (24, 23), (25, 24)] [(ch 1000), (ch 1003)] = some Zw.p2 := by kernel_rfl
noncomputable def Zw.t174 : List SE := ncL [Zw.sl 1001 200,
  Zw.sl 1001 100,
  ⟨.len, (ch 1000), (.int .i64 0), (ch 1002)⟩,
  ⟨.bin .lss, (ch 1001), (ch 1002), (.bool true)⟩,
  ⟨.idx 1, (ch 1000), (ch 1001), (.pointer (some ⟨8, 0, none⟩))⟩,
  ⟨.bin .add, (ch 1001), (.int .i64 1), (ch 1003)⟩]
theorem Zw.i174 : Zw.d45.sub 8 [[(.bool false)]] (idl 8 Zw.d45.objs) (idA 2) (Zw.d45.st 8 []) = true := by kernel_rfl
theorem Zw.r174 : leafNext (fK (Tryz.Es Tryz.m3 (syOf Zw.t174)) 100000 100000 Zw.p2 (Zw.d45.st 8 [[(.bool false)]]) 1) 8 Zw.d52 [(10, 10), (11, 11), (12, 12), (13, 31), (14, 14), (15, 15), (16, 16), (17, 17), (18, 18), (19, 19), (20, 29), (21, 20), (22, 21), (23, 22), (24, 23), (25, 24), (26, 25)] [(ch 1000), (ch 1003)] = some Zw.p2 := by kernel_rfl
noncomputable def Zw.t177 : List SE := ncL [Zw.sl 1001 200,
  Zw.sl 1001 100,
  ⟨.len, (ch 1000), (.int .i64 0), (ch 1002)⟩,
  ⟨.bin .lss, (ch 1001), (ch 1002), (.bool true)⟩,
  ⟨.idx 1, (ch 1000), (ch 1001), (.pointer (some ⟨8, 0, none⟩))⟩,
  ⟨.bin .add, (ch 1001), (.int .i64 1), (ch 1003)⟩]
theorem Zw.i177 : Zw.d46.sub 8 [[(.bool true)]] (idl 8 Zw.d46.objs) (idA 2) (Zw.d46.st 8 []) = true := by kernel_rfl
theorem Zw.r177 : leafNext (fK (Tryz.Es Tryz.m3 (syOf Zw.t177)) 100000 100000 Zw.p2 (Zw.d46.st 8 [[(.bool true)]]) 1) 8 Zw.d46 [(10, 10), (11, 11), (12, 12), (13, 13), (14, 14), (15, 15), (16, 16), (17, 17), (18, 18), (19, 19), (20, 20), (21, 21), (22, 22), (23, 23), (24, 24), (25, 25), (26, 26)] [(ch 1000), (ch 1003)] = some Zw.p2 := by kernel_rfl
noncomputable def Zw.t180 : List SE := ncL [Zw.sl 1001 200,
  ⟨.bin .lss, (ch 1001), (.int .i64 100), (.bool false)⟩,
  ⟨.bin .add, (ch 1001), (.int .i64 1), (ch 1002)⟩]
theorem Zw.i180 : Zw.d46.sub 8 [] (idl 8 Zw.d46.objs) (idA 2) (Zw.d46.st 8 []) = true := by kernel_rfl
theorem Zw.r180 : leafNext (fK (Tryz.Es Tryz.m3 (syOf Zw.t180)) 100000 100000 Zw.p2 (Zw.d46.st 8 []) 1) 8 Zw.d53 [(10, 10), (11, 11), (12, 12), (13, 32), (14, 14), (15, 15), (16, 16), (17, 17), (18, 18), (19, 19), (20, 30), (21, 20), (22, 21), (23, 22), (24, 23), (25, 24), (26, 25), (27, 26)] [(ch 1000), (ch 1002)] = some Zw.p2 := by kernel_rfl
noncomputable def Zw.t183 : List SE := ncL [Zw.sl 1001 200,
  Zw.sl 1001 100,
  ⟨.len, (ch 1000), (.int .i64 0), (ch 1002)⟩,
  ⟨.bin .lss, (ch 1001), (ch 1002), (.bool false)⟩,
  ⟨.bin .add, (ch 1001), (.int .i64 1), (ch 1003)⟩]
theorem Zw.i183 : Zw.d47.sub 8 [] (idl 8 Zw.d47.objs) (idA 2) (Zw.d47.st 8 []) = true := by kernel_rfl
theorem Zw.r183 : leafNext (fK (Tryz.Es Tryz.m3 (syOf Zw.t183)) 100000 100000 Zw.p2 (Zw.d47.st 8 []) 1) 8 Zw.d54 [(10, 10), (11, 11), (12, 12), (13, 33), (14, 14), (15, 15), (16, 16), (17, 17), (18, 18), (19, 19), (20, 31), (21, 20), (22, 21), (23, 22), (24, 23), (25, 24), (26, 25), (27, 26), (28, 27)] [(ch 1000), (ch 1003)] = some Zw.p2 := by kernel_rfl
noncomputable def Zw.t186 : List SE := ncL [Zw.sl 1001 200,
  Zw.sl 1001 100,
  ⟨.len, (ch 1000), (.int .i64 0), (ch 1002)⟩,
  ⟨.bin .lss, (ch 1001), (ch 1002), (.bool true)⟩,
  ⟨.idx 1, (ch 1000), (ch 1001), (.pointer (some ⟨8, 0, none⟩))⟩,
  ⟨.bin .add, (ch 1001), (.int .i64 1), (ch 1003)⟩]
theorem Zw.i186 : Zw.d48.sub 8 [[(.bool false)]] (idl 8 Zw.d48.objs) (idA 2) (Zw.d48.st 8 []) = true := by kernel_rfl
theorem Zw.r186 : leafNext (fK (Tryz.Es Tryz.m3 (syOf Zw.t186)) 100000 100000 Zw.p2 (Zw.d48.st 8 [[(.bool false)]]) 1) 8 Zw.d55 [(10, 10), (11, 11), (12, 12), (13, 34), (14, 14), (15, 15), (16, 16), (17, 17), (18, 18), (19, 19), (20, 32), (21, 20), (22, 21), (23, 22), (24, 23), (25, 24), (26, 25), (27, 26), (28, 27), (29, 28)] [(ch 1000), (ch 1003)] = some Zw.p2 := by kernel_rfl
noncomputable def Zw.t189 : List SE := ncL [Zw.sl 1001 200,
  Zw.sl 1001 100,
  ⟨.len, (ch 1000), (.int .i64 0), (ch 1002)⟩,
  ⟨.bin .lss, (ch 1001), (ch 1002), (.bool true)⟩,
  ⟨.idx 1, (ch 1000), (ch 1001), (.pointer (some ⟨8, 0, none⟩))⟩,
  ⟨.bin .add, (ch 1001), (.int .i64 1), (ch 1003)⟩]
theorem Zw.i189 : Zw.d49.sub 8 [[(.bool true)]] (idl 8 Zw.d49.objs) (idA 2) (Zw.d49.st 8 []) = true := by kernel_rfl
theorem Zw.r189 : leafNext (fK (Tryz.Es Tryz.m3 (syOf Zw.t189)) 100000 100000 Zw.p2 (Zw.d49.st 8 [[(.bool true)]]) 1) 8 Zw.d49 [(10, 10), (11, 11), (12, 12), (13, 13), (14, 14), (15, 15), (16, 16), (17, 17), (18, 18), (19, 19), (20, 20), (21, 21), (22, 22), (23, 23), (24, 24), (25, 25), (26, 26), (27, 27), (28, 28), (29, 29)] [(ch 1000), (ch 1003)] = some Zw.p2 := by kernel_rfl
noncomputable def Zw.t192 : List SE := ncL [Zw.sl 1001 200,
  ⟨.bin .lss, (ch 1001), (.int .i64 100), (.bool false)⟩,
  ⟨.bin .add, (ch 1001), (.int .i64 1), (ch 1002)⟩]
theorem Zw.i192 : Zw.d49.sub 8 [] (idl 8 Zw.d49.objs) (idA 2) (Zw.d49.st 8 []) = true := by kernel_rfl
theorem Zw.r192 : leafNext (fK (Tryz.Es Tryz.m3 (syOf Zw.t192)) 100000 100000 Zw.p2 (Zw.d49.st 8 []) 1) 8 Zw.d56 [(10, 10), (11, 11), (12, 12), (13, 35), (14, 14), (15, 15), (16, 16), (17, 17), (18, 18), (19, 19), (20, 33), (21, 20), (22, 21), (23, 22), (24, 23), (25, 24), (26, 25), (27, 26), (28, 27), (29, 28), (30, 29)] [(ch 1000), (ch 1002)] = some Zw.p2 := by kernel_rfl
noncomputable def Zw.t195 : List SE := ncL [Zw.sl 1001 200,
  Zw.sl 1001 100,
  ⟨.len, (ch 1000), (.int .i64 0), (ch 1002)⟩,
  ⟨.bin .lss, (ch 1001), (ch 1002), (.bool false)⟩,
  ⟨.bin .add, (ch 1001), (.int .i64 1), (ch 1003)⟩]
theorem Zw.i195 : Zw.d50.sub 8 [] (idl 8 Zw.d50.objs) (idA 2) (Zw.d50.st 8 []) = true := by kernel_rfl
theorem Zw.r195 : leafNext (fK (Tryz.Es Tryz.m3 (syOf Zw.t195)) 100000 100000 Zw.p2 (Zw.d50.st 8 []) 1) 8 Zw.d57 [(10, 10), (11, 11), (12, 12), (13, 36), (14, 14), (15, 15), (16, 16), (17, 17), (18, 18), (19, 19), (20, 34), (21, 20), (22, 21), (23, 22), (24, 23), (25, 24), (26, 25), (27, 26), (28, 27), (29, 28), (30, 29), (31, 30)] [(ch 1000), (ch 1003)] = some Zw.p2 := by kernel_rfl
noncomputable def Zw.t198 : List SE := ncL [Zw.sl 1001 200,
  Zw.sl 1001 100,
  ⟨.len, (ch 1000), (.int .i64 0), (ch 1002)⟩,
  ⟨.bin .lss, (ch 1001), (ch 1002), (.bool true)⟩,
  ⟨.idx 1, (ch 1000), (ch 1001), (.pointer (some ⟨8, 0, none⟩))⟩,
  ⟨.bin .add, (ch 1001), (.int .i64 1), (ch 1003)⟩]
theorem Zw.i198 : Zw.d52.sub 8 [[(.bool true)]] (idl 8 Zw.d52.objs) (idA 2) (Zw.d52.st 8 []) = true := by kernel_rfl
theorem Zw.r198 : leafNext (fK (Tryz.Es Tryz.m3 (syOf Zw.t198)) 100000 100000 Zw.p2 (Zw.d52.st 8 [[(.bool true)]]) 1) 8 Zw.d52 [(10, 10), (11, 11), (12, 12), (13, 13), (14, 14), (15, 15), (16, 16), (17, 17), (18, 18), (19, 19), (20, 20), (21, 21), (22, 22), (23, 23), (24, 24), (25, 25), (26, 26)] [(ch 1000), (ch 1003)] = some Zw.p2 := by kernel_rfl
noncomputable def Zw.t201 : List SE := ncL [Zw.sl 1001 200,
  ⟨.bin .lss, (ch 1001), (.int .i64 100), (.bool false)⟩,
  ⟨.bin .add, (ch 1001), (.int .i64 1), (ch 1002)⟩]
theorem Zw.i201 : Zw.d52.sub 8 [] (idl 8 Zw.d52.objs) (idA 2) (Zw.d52.st 8 []) = true := by kernel_rfl
theorem Zw.r201 : leafNext (fK (Tryz.Es Tryz.m3 (syOf Zw.t201)) 100000 100000 Zw.p2 (Zw.d52.st 8 []) 1) 8 Zw.d58 [(10, 10), (11, 11), (12, 12), (13, 32), (14, 14), (15, 15), (16, 16), (17, 17), (18, 18), (19, 19), (20, 20), (21, 30), (22, 21), (23, 22), (24, 23), (25, 24), (26, 25), (27, 26)] [(ch 1000), (ch 1002)] = some Zw.p2 := by kernel_rfl
noncomputable def Zw.t204 : List SE := ncL [Zw.sl 1001 200,
  Zw.sl 1001 100,
  ⟨.len, (ch 1000), (.int .i64 0), (ch 1002)⟩,
  ⟨.bin .lss, (ch 1001), (ch 1002), (.bool false)⟩,
  ⟨.bin .add, (ch 1001), (.int .i64 1), (ch 1003)⟩]
theorem Zw.i204 : Zw.d53.sub 8 [] (idl 8 Zw.d53.objs) (idA 2) (Zw.d53.st 8 []) = true := by kernel_rfl
theorem Zw.r204 : leafNext (fK (Tryz.Es Tryz.m3 (syOf Zw.t204)) 100000 100000 Zw.p2 (Zw.d53.st 8 []) 1) 8 Zw.d59 [(10, 10), (11, 11), (12, 12), (13, 33), (14, 14), (15, 15), (16, 16), (17, 17), (18, 18), (19, 19), (20, 20), (21, 31), (22, 21), (23, 22), (24, 23), (25, 24), (26, 25), (27, 26), (28, 27)] [(ch 1000), (ch 1003)] = some Zw.p2 := by kernel_rfl
noncomputable def Zw.t207 : List SE := ncL [Zw.sl 1001 200,
  Zw.sl 1001 100,
  ⟨.len, (ch 1000), (.int .i64 0), (ch 1002)⟩,
  ⟨.bin .lss, (ch 1001), (ch 1002), (.bool true)⟩,
  ⟨.idx 1, (ch 1000), (ch 1001), (.pointer (some ⟨8, 0, none⟩))⟩,
  ⟨.bin .add, (ch 1001), (.int .i64 1), (ch 1003)⟩]
theorem Zw.i207 : Zw.d54.sub 8 [[(.bool false)]] (idl 8 Zw.d54.objs) (idA 2) (Zw.d54.st 8 []) = true := by kernel_rfl
theorem Zw.r207 : leafNext (fK (Tryz.Es Tryz.m3 (syOf Zw.t207)) 100000 100000 Zw.p2 (Zw.d54.st 8 [[(.bool false)]]) 1) 8 Zw.d60 [(10, 10), (11, 11), (12, 12), (13, 34), (14, 14), (15, 15), (16, 16), (17, 17), (18, 18), (19, 19), (20, 20), (21, 32), (22, 21), (23, 22), (24, 23), (25, 24), (26, 25), (27, 26), (28, 27), (29, 28)] [(ch 1000), (ch 1003)] = some Zw.p2 := by kernel_rfl
noncomputable def Zw.t210 : List SE := ncL [Zw.sl 1001 200,
  Zw.sl 1001 100,
  ⟨.len, (ch 1000), (.int .i64 0), (ch 1002)⟩,
  ⟨.bin .lss, (ch 1001), (ch 1002), (.bool true)⟩,
  ⟨.idx 1, (ch 1000), (ch 1001), (.pointer (some ⟨8, 0, none⟩))⟩,
  ⟨.bin .add, (ch 1001), (.int .i64 1), (ch 1003)⟩]
theorem Zw.i210 : Zw.d55.sub 8 [[(.bool true)]] (idl 8 Zw.d55.objs) (idA 2) (Zw.d55.st 8 []) = true := by kernel_rfl
theorem Zw.r210 : leafNext (fK (Tryz.Es Tryz.m3 (syOf Zw.t210)) 100000 100000 Zw.p2 (Zw.d55.st 8 [[(.bool true)]]) 1) 8 Zw.d55 [(10, 10), (11, 11), (12, 12), (13, 13), (14, 14), (15, 15), (16, 16), (17, 17), (18, 18), (19, 19), (20, 20), (21, 21), (22, 22), (23, 23), (24, 24), (25, 25), (26, 26), (27, 27), (28, 28), (29, 29)] [(ch 1000), (ch 1003)] = some Zw.p2 := by kernel_rfl
noncomputable def Zw.t213 : List SE := ncL [Zw.sl 1001 200,
  ⟨.bin .lss, (ch 1001), (.int .i64 100), (.bool false)⟩,
  ⟨.bin .add, (ch 1001), (.int .i64 1), (ch 1002)⟩]
theorem Zw.i213 : Zw.d55.sub 8 [] (idl 8 Zw.d55.objs) (idA 2) (Zw.d55.st 8 []) = true := by kernel_rfl
theorem Zw.r213 : leafNext (fK (Tryz.Es Tryz.m3 (syOf Zw.t213)) 100000 100000 Zw.p2 (Zw.d55.st 8 []) 1) 8 Zw.d61 [(10, 10), (11, 11), (12, 12), (13, 35), (14, 14), (15, 15), (16, 16), (17, 17), (18, 18), (19, 19), (20, 20), (21, 33), (22, 21), (23, 22), (24, 23), (25, 24), (26, 25), (27, 26), (28, 27), (29, 28), (30, 29)] [(ch 1000), (ch 1002)] = some Zw.p2 := by kernel_rfl
noncomputable def Zw.t216 : List SE := ncL [Zw.sl 1001 200,
  Zw.sl 1001 100,
  ⟨.len, (ch 1000), (.int .i64 0), (ch 1002)⟩,
  ⟨.bin .lss, (ch 1001), (ch 1002), (.bool false)⟩,
  ⟨.bin .add, (ch 1001), (.int .i64 1), (ch 1003)⟩]
theorem Zw.i216 : Zw.d56.sub 8 [] (idl 8 Zw.d56.objs) (idA 2) (Zw.d56.st 8 []) = true := by kernel_rfl
theorem Zw.r216 : leafNext (fK (Tryz.Es Tryz.m3 (syOf Zw.t216)) 100000 100000 Zw.p2 (Zw.d56.st 8 []) 1) 8 Zw.d62 [(10, 10), (11, 11), (12, 12), (13, 36), (14, 14), (15, 15), (16, 16), (17, 17), (18, 18), (19, 19), (20, 20), (21, 34), (22, 21), (23, 22), (24, 23), (25, 24), (26, 25), (27, 26), (28, 27), (29, 28), (30, 29), (31, 30)] [(ch 1000), (ch 1003)] = some Zw.p2 := by kernel_rfl
noncomputable def Zw.t219 : List SE := ncL [Zw.sl 1001 200,
  Zw.sl 1001 100,
  ⟨.len, (ch 1000), (.int .i64 0), (ch 1002)⟩,
  ⟨.bin .lss, (ch 1001), (ch 1002), (.bool true)⟩,
  ⟨.idx 1, (ch 1000), (ch 1001), (.pointer (some ⟨8, 0, none⟩))⟩,
  ⟨.bin .add, (ch 1001), (.int .i64 1), (ch 1003)⟩]
theorem Zw.i219 : Zw.d57.sub 8 [[(.bool false)]] (idl 8 Zw.d57.objs) (idA 2) (Zw.d57.st 8 []) = true := by kernel_rfl
theorem Zw.r219 : leafNext (fK (Tryz.Es Tryz.m3 (syOf Zw.t219)) 100000 100000 Zw.p2 (Zw.d57.st 8 [[(.bool false)]]) 1) 8 Zw.d63 [(10, 10), (11, 11), (12, 12), (13, 37), (14, 14), (15, 15), (16, 16), (17, 17), (18, 18), (19, 19), (20, 20), (21, 35), (22, 21), (23, 22), (24, 23), (25, 24), (26, 25), (27, 26), (28, 27), (29, 28), (30, 29), (31, 30), (32, 31)] [(ch 1000), (ch 1003)] = some Zw.p2 := by kernel_rfl
noncomputable def Zw.t222 : List SE := ncL [Zw.sl 1001 200]
theorem Zw.i222 : Zw.d58.sub 8 [] (idl 8 Zw.d58.objs) (idA 2) (Zw.d58.st 8 []) = true := by kernel_rfl
theorem Zw.r222 : leafFin (Tryz.Es Tryz.m3 (syOf Zw.t222)) Tryz.f6 (fK (Tryz.Es Tryz.m3 (syOf Zw.t222)) 100000 100000 Zw.p2 (Zw.d58.st 8 []) 1) = true := by kernel_rfl
noncomputable def Zw.t225 : List SE := ncL [Zw.sl 1001 200,
  Zw.sl 1001 100,
  ⟨.len, (ch 1000), (.int .i64 0), (ch 1002)⟩,
  ⟨.bin .lss, (ch 1001), (ch 1002), (.bool false)⟩,
  ⟨.bin .add, (ch 1001), (.int .i64 1), (ch 1003)⟩]
theorem Zw.i225 : Zw.d59.sub 8 [] (idl 8 Zw.d59.objs) (idA 2) (Zw.d59.st 8 []) = true := by kernel_rfl
theorem Zw.r225 : leafNext (fK (Tryz.Es Tryz.m3 (syOf Zw.t225)) 100000 100000 Zw.p2 (Zw.d59.st 8 []) 1) 8 Zw.d64 [(10, 10), (11, 11), (12, 12), (13, 34), (14, 14), (15, 15), (16, 16), (17, 17), (18, 18), (19, 19), (20, 20), (21, 21), (22, 32), (23, 22), (24, 23), (25, 24), (26, 25), (27, 26), (28, 27), (29, 28)] [(ch 1000), (ch 1003)] = some Zw.p2 := by kernel_rfl
noncomputable def Zw.t228 : List SE := ncL [Zw.sl 1001 200,
  Zw.sl 1001 100,
  ⟨.len, (ch 1000), (.int .i64 0), (ch 1002)⟩,
  ⟨.bin .lss, (ch 1001), (ch 1002), (.bool true)⟩,
  ⟨.idx 1, (ch 1000), (ch 1001), (.pointer (some ⟨8, 0, none⟩))⟩,
  ⟨.bin .add, (ch 1001), (.int .i64 1), (ch 1003)⟩]
theorem Zw.i228 : Zw.d60.sub 8 [[(.bool false)]] (idl 8 Zw.d60.objs) (idA 2) (Zw.d60.st 8 []) = true := by kernel_rfl
theorem Zw.r228 : leafNext (fK (Tryz.Es Tryz.m3 (syOf Zw.t228)) 100000 100000 Zw.p2 (Zw.d60.st 8 [[(.bool false)]]) 1) 8 Zw.d65 [(10, 10), (11, 11), (12, 12), (13, 35), (14, 14), (15, 15), (16, 16), (17, 17), (18, 18), (19, 19), (20, 20), (21, 21), (22, 33), (23, 22), (24, 23), (25, 24), (26, 25), (27, 26), (28, 27), (29, 28), (30, 29)] [(ch 1000), (ch 1003)] = some Zw.p2 := by kernel_rfl
noncomputable def Zw.t231 : List SE := ncL [Zw.sl 1001 200,
  Zw.sl 1001 100,
  ⟨.len, (ch 1000), (.int .i64 0), (ch 1002)⟩,
  ⟨.bin .lss, (ch 1001), (ch 1002), (.bool true)⟩,
  ⟨.idx 1, (ch 1000), (ch 1001), (.pointer (some ⟨8, 0, none⟩))⟩,
  ⟨.bin .add, (ch 1001), (.int .i64 1), (ch 1003)⟩]
theorem Zw.i231 : Zw.d61.sub 8 [[(.bool true)]] (idl 8 Zw.d61.objs) (idA 2) (Zw.d61.st 8 []) = true := by kernel_rfl
theorem Zw.r231 : leafNext (fK (Tryz.Es Tryz.m3 (syOf Zw.t231)) 100000 100000 Zw.p2 (Zw.d61.st 8 [[(.bool true)]]) 1) 8 Zw.d61 [(10, 10), (11, 11), (12, 12), (13, 13), (14, 14), (15, 15), (16, 16), (17, 17), (18, 18), (19, 19), (20, 20), (21, 21), (22, 22), (23, 23), (24, 24), (25, 25), (26, 26), (27, 27), (28, 28), (29, 29), (30, 30)] [(ch 1000), (ch 1003)] = some Zw.p2 := by kernel_rfl
noncomputable def Zw.t234 : List SE := ncL [Zw.sl 1001 200,
  ⟨.bin .lss, (ch 1001), (.int .i64 100), (.bool false)⟩,
  ⟨.bin .add, (ch 1001), (.int .i64 1), (ch 1002)⟩]
theorem Zw.i234 : Zw.d61.sub 8 [] (idl 8 Zw.d61.objs) (idA 2) (Zw.d61.st 8 []) = true := by kernel_rfl
theorem Zw.r234 : leafNext (fK (Tryz.Es Tryz.m3 (syOf Zw.t234)) 100000 100000 Zw.p2 (Zw.d61.st 8 []) 1) 8 Zw.d66 [(10, 10), (11, 11), (12, 12), (13, 36), (14, 14), (15, 15), (16, 16), (17, 17), (18, 18), (19, 19), (20, 20), (21, 21), (22, 34), (23, 22), (24, 23), (25, 24), (26, 25), (27, 26), (28, 27), (29, 28), (30, 29), (31, 30)] [(ch 1000), (ch 1002)] = some Zw.p2 := by kernel_rfl
noncomputable def Zw.t237 : List SE := ncL [Zw.sl 1001 200,
  Zw.sl 1001 100,
  ⟨.len, (ch 1000), (.int .i64 0), (ch 1002)⟩,
  ⟨.bin .lss, (ch 1001), (ch 1002), (.bool false)⟩,
  ⟨.bin .add, (ch 1001), (.int .i64 1), (ch 1003)⟩]
theorem Zw.i237 : Zw.d62.sub 8 [] (idl 8 Zw.d62.objs) (idA 2) (Zw.d62.st 8 []) = true := by kernel_rfl
theorem Zw.r237 : leafNext (fK (Tryz.Es Tryz.m3 (syOf Zw.t237)) 100000 100000 Zw.p2 (Zw.d62.st 8 []) 1) 8 Zw.d67 [(10, 10), (11, 11), (12, 12), (13, 37), (14, 14), (15, 15), (16, 16), (17, 17), (18, 18), (19, 19), (20, 20), (21, 21), (22, 35), (23, 22), (24, 23), (25, 24), (26, 25), (27, 26), (28, 27), (29, 28), (30, 29), (31, 30), (32, 31)] [(ch 1000), (ch 1003)] = some Zw.p2 := by kernel_rfl
noncomputable def Zw.t240 : List SE := ncL [Zw.sl 1001 200,
  Zw.sl 1001 100,
  ⟨.len, (ch 1000), (.int .i64 0), (ch 1002)⟩,
  ⟨.bin .lss, (ch 1001), (ch 1002), (.bool true)⟩,
  ⟨.idx 1, (ch 1000), (ch 1001), (.pointer (some ⟨8, 0, none⟩))⟩,
  ⟨.bin .add, (ch 1001), (.int .i64 1), (ch 1003)⟩]
theorem Zw.i240 : Zw.d63.sub 8 [[(.bool false)]] (idl 8 Zw.d63.objs) (idA 2) (Zw.d63.st 8 []) = true := by kernel_rfl
theorem Zw.r240 : leafNext (fK (Tryz.Es Tryz.m3 (syOf Zw.t240)) 100000 100000 Zw.p2 (Zw.d63.st 8 [[(.bool false)]]) 1) 8 Zw.d68 [(10, 10), (11, 11), (12, 12), (13, 38), (14, 14), (15, 15), (16, 16), (17, 17), (18, 18), (19, 19), (20, 20), (21, 21), (22, 36), (23, 22), (24, 23), (25, 24), (26, 25), (27, 26), (28, 27), (29, 28), (30, 29), (31, 30), (32, 31), (33, 32)] [(ch 1000), (ch 1003)] = some Zw.p2 := by kernel_rfl
noncomputable def Zw.t243 : List SE := ncL [Zw.sl 1001 200]
theorem Zw.i243 : Zw.d64.sub 8 [] (idl 8 Zw.d64.objs) (idA 2) (Zw.d64.st 8 []) = true := by kernel_rfl
theorem Zw.r243 : leafFin (Tryz.Es Tryz.m3 (syOf Zw.t243)) Tryz.f6 (fK (Tryz.Es Tryz.m3 (syOf Zw.t243)) 100000 100000 Zw.p2 (Zw.d64.st 8 []) 1) = true := by kernel_rfl
noncomputable def Zw.t246 : List SE := ncL [Zw.sl 1001 200,
  Zw.sl 1001 100,
  ⟨.len, (ch 1000), (.int .i64 0), (ch 1002)⟩,
  ⟨.bin .lss, (ch 1001), (ch 1002), (.bool false)⟩,
  ⟨.bin .add, (ch 1001), (.int .i64 1), (ch 1003)⟩]
theorem Zw.i246 : Zw.d65.sub 8 [] (idl 8 Zw.d65.objs) (idA 2) (Zw.d65.st 8 []) = true := by kernel_rfl
theorem Zw.r246 : leafNext (fK (Tryz.Es Tryz.m3 (syOf Zw.t246)) 100000 100000 Zw.p2 (Zw.d65.st 8 []) 1) 8 Zw.d69 [(10, 10), (11, 11), (12, 12), (13, 37), (14, 14), (15, 15), (16, 16), (17, 17), (18, 18), (19, 19), (20, 20), (21, 21), (22, 22), (23, 35), (24, 23), (25, 24), (26, 25), (27, 26), (28, 27), (29, 28), (30, 29), (31, 30)] [(ch 1000), (ch 1003)] = some Zw.p2 := by kernel_rfl
noncomputable def Zw.t249 : List SE := ncL [Zw.sl 1001 200,
  Zw.sl 1001 100,
  ⟨.len, (ch 1000), (.int .i64 0), (ch 1002)⟩,
  ⟨.bin .lss, (ch 1001), (ch 1002), (.bool true)⟩,
  ⟨.idx 1, (ch 1000), (ch 1001), (.pointer (some ⟨8, 0, none⟩))⟩,
  ⟨.bin .add, (ch 1001), (.int .i64 1), (ch 1003)⟩]
theorem Zw.i249 : Zw.d66.sub 8 [[(.bool false)]] (idl 8 Zw.d66.objs) (idA 2) (Zw.d66.st 8 []) = true := by kernel_rfl
theorem Zw.r249 : leafNext (fK (Tryz.Es Tryz.m3 (syOf Zw.t249)) 100000 100000 Zw.p2 (Zw.d66.st 8 [[(.bool false)]]) 1) 8 Zw.d70 [(10, 10), (11, 11), (12, 12), (13, 38), (14, 14), (15, 15), (16, 16), (17, 17), (18, 18), (19, 19), (20, 20), (21, 21), (22, 22), (23, 36), (24, 23), (25, 24), (26, 25), (27, 26), (28, 27), (29, 28), (30, 29), (31, 30), (32, 31)] [(ch 1000), (ch 1003)] = some Zw.p2 := by kernel_rfl
noncomputable def Zw.t252 : List SE := ncL [Zw.sl 1001 200,
  Zw.sl 1001 100,
  ⟨.len, (ch 1000), (.int .i64 0), (ch 1002)⟩,
  ⟨.bin .lss, (ch 1001), (ch 1002), (.bool true)⟩,
  ⟨.idx 1, (ch 1000), (ch 1001), (.pointer (some ⟨8, 0, none⟩))⟩,
  ⟨.bin .add, (ch 1001), (.int .i64 1), (ch 1003)⟩]
theorem Zw.i252 : Zw.d67.sub 8 [[(.bool true)]] (idl 8 Zw.d67.objs) (idA 2) (Zw.d67.st 8 []) = true := by kernel_rfl
theorem Zw.r252 : leafNext (fK (Tryz.Es Tryz.m3 (syOf Zw.t252)) 100000 100000 Zw.p2 (Zw.d67.st 8 [[(.bool true)]]) 1) 8 Zw.d67 [(10, 10), (11, 11), (12, 12), (13, 13), (14, 14), (15, 15), (16, 16), (17, 17), (18, 18), (19, 19), (20, 20), (21, 21), (22, 22), (23, 23), (24, 24), (25, 25), (26, 26), (27, 27), (28, 28), (29, 29), (30, 30), (31, 31), (32, 32)] [(ch 1000), (ch 1003)] = some Zw.p2 := by kernel_rfl
noncomputable def Zw.t255 : List SE := ncL [Zw.sl 1001 200,
  ⟨.bin .lss, (ch 1001), (.int .i64 100), (.bool false)⟩,
  ⟨.bin .add, (ch 1001), (.int .i64 1), (ch 1002)⟩]
theorem Zw.i255 : Zw.d67.sub 8 [] (idl 8 Zw.d67.objs) (idA 2) (Zw.d67.st 8 []) = true := by kernel_rfl
theorem Zw.r255 : leafNext (fK (Tryz.Es Tryz.m3 (syOf Zw.t255)) 100000 100000 Zw.p2 (Zw.d67.st 8 []) 1) 8 Zw.d71 [(10, 10), (11, 11), (12, 12), (13, 39), (14, 14), (15, 15), (16, 16), (17, 17), (18, 18), (19, 19), (20, 20), (21, 21), (22, 22), (23, 37), (24, 23), (25, 24), (26, 25), (27, 26), (28, 27), (29, 28), (30, 29), (31, 30), (32, 31), (33, 32)] [(ch 1000), (ch 1002)] = some Zw.p2 := by kernel_rfl
noncomputable def Zw.t258 : List SE := ncL [Zw.sl 1001 200,
  Zw.sl 1001 100,
  ⟨.len, (ch 1000), (.int .i64 0), (ch 1002)⟩,
  ⟨.bin .lss, (ch 1001), (ch 1002), (.bool false)⟩,
  ⟨.bin .add, (ch 1001), (.int .i64 1), (ch 1003)⟩]
theorem Zw.i258 : Zw.d68.sub 8 [] (idl 8 Zw.d68.objs) (idA 2) (Zw.d68.st 8 []) = true := by kernel_rfl
theorem Zw.r258 : leafNext (fK (Tryz.Es Tryz.m3 (syOf Zw.t258)) 100000 100000 Zw.p2 (Zw.d68.st 8 []) 1) 8 Zw.d72 [(10, 10), (11, 11), (12, 12), (13, 40), (14, 14), (15, 15), (16, 16), (17, 17), (18, 18), (19, 19), (20, 20), (21, 21), (22, 22), (23, 38), (24, 23), (25, 24), (26, 25), (27, 26), (28, 27), (29, 28), (30, 29), (31, 30), (32, 31), (33, 32), (34, 33)] [(ch 1000), (ch 1003)] = some Zw.p2 := by kernel_rfl
noncomputable def Zw.t261 : List SE := ncL [Zw.sl 1001 200,
  Zw.sl 1001 100,
  ⟨.len, (ch 1000), (.int .i64 0), (ch 1002)⟩,
  ⟨.bin .lss, (ch 1001), (ch 1002), (.bool true)⟩,
  ⟨.idx 1, (ch 1000), (ch 1001), (.pointer (some ⟨8, 0, none⟩))⟩,
  ⟨.bin .add, (ch 1001), (.int .i64 1), (ch 1003)⟩]
theorem Zw.i261 : Zw.d70.sub 8 [[(.bool true)]] (idl 8 Zw.d70.objs) (idA 2) (Zw.d70.st 8 []) = true := by kernel_rfl
theorem Zw.r261 : leafNext (fK (Tryz.Es Tryz.m3 (syOf Zw.t261)) 100000 100000 Zw.p2 (Zw.d70.st 8 [[(.bool true)]]) 1) 8 Zw.d70 [(10, 10), (11, 11), (12, 12), (13, 13), (14, 14), (15, 15), (16, 16), (17, 17), (18, 18), (19, 19), (20, 20), (21, 21), (22, 22), (23, 23), (24, 24), (25, 25), (26, 26), (27, 27), (28, 28), (29, 29), (30, 30), (31, 31), (32, 32)] [(ch 1000), (ch 1003)] = some Zw.p2 := by kernel_rfl
noncomputable def Zw.t264 : List SE := ncL [Zw.sl 1001 200,
  ⟨.bin .lss, (ch 1001), (.int .i64 100), (.bool false)⟩,
  ⟨.bin .add, (ch 1001), (.int .i64 1), (ch 1002)⟩]
theorem Zw.i264 : Zw.d70.sub 8 [] (idl 8 Zw.d70.objs) (idA 2) (Zw.d70.st 8 []) = true := by kernel_rfl
theorem Zw.r264 : leafNext (fK (Tryz.Es Tryz.m3 (syOf Zw.t264)) 100000 100000 Zw.p2 (Zw.d70.st 8 []) 1) 8 Zw.d73 [(10, 10), (11, 11), (12, 12), (13, 39), (14, 14), (15, 15), (16, 16), (17, 17), (18, 18), (19, 19), (20, 20), (21, 21), (22, 22), (23, 23), (24, 37), (25, 24), (26, 25), (27, 26), (28, 27), (29, 28), (30, 29), (31, 30), (32, 31), (33, 32)] [(ch 1000), (ch 1002)] = some Zw.p2 := by kernel_rfl
noncomputable def Zw.t267 : List SE := ncL [Zw.sl 1001 200,
  Zw.sl 1001 100,
  ⟨.len, (ch 1000), (.int .i64 0), (ch 1002)⟩,
  ⟨.bin .lss, (ch 1001), (ch 1002), (.bool false)⟩,
  ⟨.bin .add, (ch 1001), (.int .i64 1), (ch 1003)⟩]
theorem Zw.i267 : Zw.d71.sub 8 [] (idl 8 Zw.d71.objs) (idA 2) (Zw.d71.st 8 []) = true := by kernel_rfl
theorem Zw.r267 : leafNext (fK (Tryz.Es Tryz.m3 (syOf Zw.t267)) 100000 100000 Zw.p2 (Zw.d71.st 8 []) 1) 8 Zw.d74 [(10, 10), (11, 11), (12, 12), (13, 40), (14, 14), (15, 15), (16, 16), (17, 17), (18, 18), (19, 19), (20, 20), (21, 21), (22, 22), (23, 23), (24, 38), (25, 24), (26, 25), (27, 26), (28, 27), (29, 28), (30, 29), (31, 30), (32, 31), (33, 32), (34, 33)] [(ch 1000), (ch 1003)] = some Zw.p2 := by kernel_rfl
noncomputable def Zw.t270 : List SE := ncL [Zw.sl 1001 200,
  Zw.sl 1001 100,
  ⟨.len, (ch 1000), (.int .i64 0), (ch 1002)⟩,
  ⟨.bin .lss, (ch 1001), (ch 1002), (.bool true)⟩,
  ⟨.idx 1, (ch 1000), (ch 1001), (.pointer (some ⟨8, 0, none⟩))⟩,
  ⟨.bin .add, (ch 1001), (.int .i64 1), (ch 1003)⟩]
theorem Zw.i270 : Zw.d72.sub 8 [[(.bool false)]] (idl 8 Zw.d72.objs) (idA 2) (Zw.d72.st 8 []) = true := by kernel_rfl
theorem Zw.r270 : leafNext (fK (Tryz.Es Tryz.m3 (syOf Zw.t270)) 100000 100000 Zw.p2 (Zw.d72.st 8 [[(.bool false)]]) 1) 8 Zw.d75 [(10, 10), (11, 11), (12, 12), (13, 41), (14, 14), (15, 15), (16, 16), (17, 17), (18, 18), (19, 19), (20, 20), (21, 21), (22, 22), (23, 23), (24, 39), (25, 24), (26, 25), (27, 26), (28, 27), (29, 28), (30, 29), (31, 30), (32, 31), (33, 32), (34, 33), (35, 34)] [(ch 1000), (ch 1003)] = some Zw.p2 := by kernel_rfl
noncomputable def Zw.t273 : List SE := ncL [Zw.sl 1001 200]
theorem Zw.i273 : Zw.d73.sub 8 [] (idl 8 Zw.d73.objs) (idA 2) (Zw.d73.st 8 []) = true := by kernel_rfl
theorem Zw.r273 : leafFin (Tryz.Es Tryz.m3 (syOf Zw.t273)) Tryz.f6 (fK (Tryz.Es Tryz.m3 (syOf Zw.t273)) 100000 100000 Zw.p2 (Zw.d73.st 8 []) 1) = true := by kernel_rfl
noncomputable def Zw.t276 : List SE := ncL [Zw.sl 1001 200,
  Zw.sl 1001 100,
  ⟨.len, (ch 1000), (.int .i64 0), (ch 1002)⟩,
  ⟨.bin .lss, (ch 1001), (ch 1002), (.bool false)⟩,
  ⟨.bin .add, (ch 1001), (.int .i64 1), (ch 1003)⟩]
theorem Zw.i276 : Zw.d74.sub 8 [] (idl 8 Zw.d74.objs) (idA 2) (Zw.d74.st 8 []) = true := by kernel_rfl
theorem Zw.r276 : leafNext (fK (Tryz.Es Tryz.m3 (syOf Zw.t276)) 100000 100000 Zw.p2 (Zw.d74.st 8 []) 1) 8 Zw.d76 [(10, 10), (11, 11), (12, 12), (13, 41), (14, 14), (15, 15), (16, 16), (17, 17), (18, 18), (19, 19), (20, 20), (21, 21), (22, 22), (23, 23), (24, 24), (25, 39), (26, 25), (27, 26), (28, 27), (29, 28), (30, 29), (31, 30), (32, 31), (33, 32), (34, 33), (35, 34)] [(ch 1000), (ch 1003)] = some Zw.p2 := by kernel_rfl
noncomputable def Zw.t279 : List SE := ncL [Zw.sl 1001 200,
  Zw.sl 1001 100,
  ⟨.len, (ch 1000), (.int .i64 0), (ch 1002)⟩,
  ⟨.bin .lss, (ch 1001), (ch 1002), (.bool true)⟩,
  ⟨.idx 1, (ch 1000), (ch 1001), (.pointer (some ⟨8, 0, none⟩))⟩,
  ⟨.bin .add, (ch 1001), (.int .i64 1), (ch 1003)⟩]
theorem Zw.i279 : Zw.d75.sub 8 [[(.bool false)]] (idl 8 Zw.d75.objs) (idA 2) (Zw.d75.st 8 []) = true := by kernel_rfl
theorem Zw.r279 : leafNext (fK (Tryz.Es Tryz.m3 (syOf Zw.t279)) 100000 100000 Zw.p2 (Zw.d75.st 8 [[(.bool false)]]) 1) 8 Zw.d77 [(10, 10), (11, 11), (12, 12), (13, 42), (14, 14), (15, 15), (16, 16), (17, 17), (18, 18), (19, 19), (20, 20), (21, 21), (22, 22), (23, 23), (24, 24), (25, 40), (26, 25), (27, 26), (28, 27), (29, 28), (30, 29), (31, 30), (32, 31), (33, 32), (34, 33), (35, 34), (36, 35)] [(ch 1000), (ch 1003)] = some Zw.p2 := by kernel_rfl
noncomputable def Zw.t282 : List SE := ncL [Zw.sl 1001 200]
theorem Zw.i282 : Zw.d76.sub 8 [] (idl 8 Zw.d76.objs) (idA 2) (Zw.d76.st 8 []) = true := by kernel_rfl
theorem Zw.r282 : leafFin (Tryz.Es Tryz.m3 (syOf Zw.t282)) Tryz.f6 (fK (Tryz.Es Tryz.m3 (syOf Zw.t282)) 100000 100000 Zw.p2 (Zw.d76.st 8 []) 1) = true := by kernel_rfl
noncomputable def Zw.t285 : List SE := ncL [Zw.sl 1001 200,
  Zw.sl 1001 100,
  ⟨.len, (ch 1000), (.int .i64 0), (ch 1002)⟩,
  ⟨.bin .lss, (ch 1001), (ch 1002), (.bool false)⟩,
  ⟨.bin .add, (ch 1001), (.int .i64 1), (ch 1003)⟩]
theorem Zw.i285 : Zw.d77.sub 8 [] (idl 8 Zw.d77.objs) (idA 2) (Zw.d77.st 8 []) = true := by kernel_rfl
theorem Zw.r285 : leafNext (fK (Tryz.Es Tryz.m3 (syOf Zw.t285)) 100000 100000 Zw.p2 (Zw.d77.st 8 []) 1) 8 Zw.d78 [(10, 10), (11, 11), (12, 12), (13, 43), (14, 14), (15, 15), (16, 16), (17, 17), (18, 18), (19, 19), (20, 20), (21, 21), (22, 22), (23, 23), (24, 24), (25, 25), (26, 41), (27, 26), (28, 27), (29, 28), (30, 29), (31, 30), (32, 31), (33, 32), (34, 33), (35, 34), (36, 35), (37, 36)] [(ch 1000), (ch 1003)] = some Zw.p2 := by kernel_rfl
end
end Go.Proofs
