/- Pieces of the law's run, from node to node, answered by the executor. No conditions. -/
import Derived.Test.YtjfjhmdhchjjdaaGreatDoorVSeatSendOrderNd
set_option linter.all false
namespace Go.Proofs
open Go Go.Vsx
set_option maxRecDepth 1000000
noncomputable section
noncomputable def Zw.t1 : List SE := ncL [⟨.bin .rem, (ch 1000), (.int .i64 12), (ch 1002)⟩,
  ⟨.bin .add, (ch 1002), (.int .i64 12), (ch 1003)⟩,
  ⟨.bin .rem, (ch 1003), (.int .i64 12), (.int .i64 1)⟩]
theorem Zw.i1 : Zw.d0.sub 8 [] (idl 8 Zw.d0.objs) (idA 2) (Zw.d0.st 8 []) = true := by kernel_rfl
theorem Zw.r1 : leafNext (fK (Tryz.Es Tryz.m3 (syOf Zw.t1)) 100000 100000 Zw.pS (Zw.d0.st 8 []) 2) 8 Zw.d2 [(10, 10), (11, 12), (12, 15), (13, 20), (14, 11), (15, 18)] [(ch 1001), (.int .i64 0)] = some Zw.p2 := by kernel_rfl
noncomputable def Zw.t4 : List SE := ncL [⟨.bin .rem, (ch 1000), (.int .i64 12), (ch 1002)⟩,
  ⟨.bin .add, (ch 1002), (.int .i64 12), (ch 1003)⟩,
  ⟨.bin .rem, (ch 1003), (.int .i64 12), (.int .i64 4)⟩]
theorem Zw.i4 : Zw.d0.sub 8 [] (idl 8 Zw.d0.objs) (idA 2) (Zw.d0.st 8 []) = true := by kernel_rfl
theorem Zw.r4 : leafNext (fK (Tryz.Es Tryz.m3 (syOf Zw.t4)) 100000 100000 Zw.pS (Zw.d0.st 8 []) 5) 8 Zw.d5 [(10, 10), (11, 12), (12, 39), (13, 44), (14, 11), (15, 18), (16, 26), (17, 34), (18, 42)] [(ch 1001), (.int .i64 0)] = some Zw.p2 := by kernel_rfl
noncomputable def Zw.t7 : List SE := ncL [⟨.bin .rem, (ch 1000), (.int .i64 12), (ch 1002)⟩,
  ⟨.bin .add, (ch 1002), (.int .i64 12), (ch 1003)⟩,
  ⟨.bin .rem, (ch 1003), (.int .i64 12), (.int .i64 7)⟩]
theorem Zw.i7 : Zw.d0.sub 8 [] (idl 8 Zw.d0.objs) (idA 2) (Zw.d0.st 8 []) = true := by kernel_rfl
theorem Zw.r7 : leafNext (fK (Tryz.Es Tryz.m3 (syOf Zw.t7)) 100000 100000 Zw.pS (Zw.d0.st 8 []) 8) 8 Zw.d8 [(10, 10), (11, 12), (12, 63), (13, 68), (14, 11), (15, 18), (16, 26), (17, 34), (18, 42), (19, 50), (20, 58), (21, 66)] [(ch 1001), (.int .i64 0)] = some Zw.p2 := by kernel_rfl
noncomputable def Zw.t10 : List SE := ncL [⟨.bin .rem, (ch 1000), (.int .i64 12), (ch 1002)⟩,
  ⟨.bin .add, (ch 1002), (.int .i64 12), (ch 1003)⟩,
  ⟨.bin .rem, (ch 1003), (.int .i64 12), (.int .i64 10)⟩]
theorem Zw.i10 : Zw.d0.sub 8 [] (idl 8 Zw.d0.objs) (idA 2) (Zw.d0.st 8 []) = true := by kernel_rfl
theorem Zw.r10 : leafNext (fK (Tryz.Es Tryz.m3 (syOf Zw.t10)) 100000 100000 Zw.pS (Zw.d0.st 8 []) 11) 8 Zw.d11 [(10, 10), (11, 12), (12, 87), (13, 92), (14, 11), (15, 18), (16, 26), (17, 34), (18, 42), (19, 50), (20, 58), (21, 66), (22, 74), (23, 82), (24, 90)] [(ch 1001), (.int .i64 0)] = some Zw.p2 := by kernel_rfl
noncomputable def Zw.t13 : List SE := ncL [Zw.sl 1001 200,
  Zw.sl 1001 100,
  ⟨.len, (ch 1000), (.int .i64 0), (ch 1002)⟩,
  ⟨.bin .lss, (ch 1001), (ch 1002), (.bool true)⟩,
  ⟨.idx 1, (ch 1000), (ch 1001), (.pointer (some ⟨8, 0, none⟩))⟩,
  ⟨.bin .add, (ch 1001), (.int .i64 1), (ch 1003)⟩]
theorem Zw.i13 : Zw.d2.sub 8 [[(.bool true)]] (idl 8 Zw.d2.objs) (idA 2) (Zw.d2.st 8 []) = true := by kernel_rfl
theorem Zw.r13 : leafNext (fK (Tryz.Es Tryz.m3 (syOf Zw.t13)) 100000 100000 Zw.p2 (Zw.d2.st 8 [[(.bool true)]]) 1) 8 Zw.d2 [(10, 10), (11, 11), (12, 12), (13, 13), (14, 14), (15, 15)] [(ch 1000), (ch 1003)] = some Zw.p2 := by kernel_rfl
noncomputable def Zw.t16 : List SE := ncL [Zw.sl 1001 200,
  ⟨.bin .lss, (ch 1001), (.int .i64 100), (.bool false)⟩,
  ⟨.bin .add, (ch 1001), (.int .i64 1), (ch 1002)⟩]
theorem Zw.i16 : Zw.d2.sub 8 [] (idl 8 Zw.d2.objs) (idA 2) (Zw.d2.st 8 []) = true := by kernel_rfl
theorem Zw.r16 : leafNext (fK (Tryz.Es Tryz.m3 (syOf Zw.t16)) 100000 100000 Zw.p2 (Zw.d2.st 8 []) 1) 8 Zw.d13 [(10, 10), (11, 11), (12, 12), (13, 19), (14, 13), (15, 14), (16, 17), (17, 15)] [(ch 1000), (ch 1002)] = some Zw.p2 := by kernel_rfl
noncomputable def Zw.t19 : List SE := ncL [Zw.sl 1001 200,
  Zw.sl 1001 100,
  ⟨.len, (ch 1000), (.int .i64 0), (ch 1002)⟩,
  ⟨.bin .lss, (ch 1001), (ch 1002), (.bool false)⟩,
  ⟨.bin .add, (ch 1001), (.int .i64 1), (ch 1003)⟩]
theorem Zw.i19 : Zw.d3.sub 8 [] (idl 8 Zw.d3.objs) (idA 2) (Zw.d3.st 8 []) = true := by kernel_rfl
theorem Zw.r19 : leafNext (fK (Tryz.Es Tryz.m3 (syOf Zw.t19)) 100000 100000 Zw.p2 (Zw.d3.st 8 []) 1) 8 Zw.d14 [(10, 10), (11, 11), (12, 12), (13, 20), (14, 13), (15, 14), (16, 18), (17, 15), (18, 16)] [(ch 1000), (ch 1003)] = some Zw.p2 := by kernel_rfl
noncomputable def Zw.t22 : List SE := ncL [Zw.sl 1001 200,
  Zw.sl 1001 100,
  ⟨.len, (ch 1000), (.int .i64 0), (ch 1002)⟩,
  ⟨.bin .lss, (ch 1001), (ch 1002), (.bool true)⟩,
  ⟨.idx 1, (ch 1000), (ch 1001), (.pointer (some ⟨8, 0, none⟩))⟩,
  ⟨.bin .add, (ch 1001), (.int .i64 1), (ch 1003)⟩]
theorem Zw.i22 : Zw.d4.sub 8 [[(.bool false)]] (idl 8 Zw.d4.objs) (idA 2) (Zw.d4.st 8 []) = true := by kernel_rfl
theorem Zw.r22 : leafNext (fK (Tryz.Es Tryz.m3 (syOf Zw.t22)) 100000 100000 Zw.p2 (Zw.d4.st 8 [[(.bool false)]]) 1) 8 Zw.d15 [(10, 10), (11, 11), (12, 12), (13, 21), (14, 13), (15, 14), (16, 19), (17, 15), (18, 16), (19, 17)] [(ch 1000), (ch 1003)] = some Zw.p2 := by kernel_rfl
noncomputable def Zw.t25 : List SE := ncL [Zw.sl 1001 200,
  Zw.sl 1001 100,
  ⟨.len, (ch 1000), (.int .i64 0), (ch 1002)⟩,
  ⟨.bin .lss, (ch 1001), (ch 1002), (.bool true)⟩,
  ⟨.idx 1, (ch 1000), (ch 1001), (.pointer (some ⟨8, 0, none⟩))⟩,
  ⟨.bin .add, (ch 1001), (.int .i64 1), (ch 1003)⟩]
theorem Zw.i25 : Zw.d5.sub 8 [[(.bool true)]] (idl 8 Zw.d5.objs) (idA 2) (Zw.d5.st 8 []) = true := by kernel_rfl
theorem Zw.r25 : leafNext (fK (Tryz.Es Tryz.m3 (syOf Zw.t25)) 100000 100000 Zw.p2 (Zw.d5.st 8 [[(.bool true)]]) 1) 8 Zw.d5 [(10, 10), (11, 11), (12, 12), (13, 13), (14, 14), (15, 15), (16, 16), (17, 17), (18, 18)] [(ch 1000), (ch 1003)] = some Zw.p2 := by kernel_rfl
noncomputable def Zw.t28 : List SE := ncL [Zw.sl 1001 200,
  ⟨.bin .lss, (ch 1001), (.int .i64 100), (.bool false)⟩,
  ⟨.bin .add, (ch 1001), (.int .i64 1), (ch 1002)⟩]
theorem Zw.i28 : Zw.d5.sub 8 [] (idl 8 Zw.d5.objs) (idA 2) (Zw.d5.st 8 []) = true := by kernel_rfl
theorem Zw.r28 : leafNext (fK (Tryz.Es Tryz.m3 (syOf Zw.t28)) 100000 100000 Zw.p2 (Zw.d5.st 8 []) 1) 8 Zw.d16 [(10, 10), (11, 11), (12, 12), (13, 22), (14, 13), (15, 14), (16, 20), (17, 15), (18, 16), (19, 17), (20, 18)] [(ch 1000), (ch 1002)] = some Zw.p2 := by kernel_rfl
noncomputable def Zw.t31 : List SE := ncL [Zw.sl 1001 200,
  Zw.sl 1001 100,
  ⟨.len, (ch 1000), (.int .i64 0), (ch 1002)⟩,
  ⟨.bin .lss, (ch 1001), (ch 1002), (.bool false)⟩,
  ⟨.bin .add, (ch 1001), (.int .i64 1), (ch 1003)⟩]
theorem Zw.i31 : Zw.d6.sub 8 [] (idl 8 Zw.d6.objs) (idA 2) (Zw.d6.st 8 []) = true := by kernel_rfl
theorem Zw.r31 : leafNext (fK (Tryz.Es Tryz.m3 (syOf Zw.t31)) 100000 100000 Zw.p2 (Zw.d6.st 8 []) 1) 8 Zw.d17 [(10, 10), (11, 11), (12, 12), (13, 23), (14, 13), (15, 14), (16, 21), (17, 15), (18, 16), (19, 17), (20, 18), (21, 19)] [(ch 1000), (ch 1003)] = some Zw.p2 := by kernel_rfl
noncomputable def Zw.t34 : List SE := ncL [Zw.sl 1001 200,
  Zw.sl 1001 100,
  ⟨.len, (ch 1000), (.int .i64 0), (ch 1002)⟩,
  ⟨.bin .lss, (ch 1001), (ch 1002), (.bool true)⟩,
  ⟨.idx 1, (ch 1000), (ch 1001), (.pointer (some ⟨8, 0, none⟩))⟩,
  ⟨.bin .add, (ch 1001), (.int .i64 1), (ch 1003)⟩]
theorem Zw.i34 : Zw.d7.sub 8 [[(.bool false)]] (idl 8 Zw.d7.objs) (idA 2) (Zw.d7.st 8 []) = true := by kernel_rfl
theorem Zw.r34 : leafNext (fK (Tryz.Es Tryz.m3 (syOf Zw.t34)) 100000 100000 Zw.p2 (Zw.d7.st 8 [[(.bool false)]]) 1) 8 Zw.d18 [(10, 10), (11, 11), (12, 12), (13, 24), (14, 13), (15, 14), (16, 22), (17, 15), (18, 16), (19, 17), (20, 18), (21, 19), (22, 20)] [(ch 1000), (ch 1003)] = some Zw.p2 := by kernel_rfl
noncomputable def Zw.t37 : List SE := ncL [Zw.sl 1001 200,
  Zw.sl 1001 100,
  ⟨.len, (ch 1000), (.int .i64 0), (ch 1002)⟩,
  ⟨.bin .lss, (ch 1001), (ch 1002), (.bool true)⟩,
  ⟨.idx 1, (ch 1000), (ch 1001), (.pointer (some ⟨8, 0, none⟩))⟩,
  ⟨.bin .add, (ch 1001), (.int .i64 1), (ch 1003)⟩]
theorem Zw.i37 : Zw.d8.sub 8 [[(.bool true)]] (idl 8 Zw.d8.objs) (idA 2) (Zw.d8.st 8 []) = true := by kernel_rfl
theorem Zw.r37 : leafNext (fK (Tryz.Es Tryz.m3 (syOf Zw.t37)) 100000 100000 Zw.p2 (Zw.d8.st 8 [[(.bool true)]]) 1) 8 Zw.d8 [(10, 10), (11, 11), (12, 12), (13, 13), (14, 14), (15, 15), (16, 16), (17, 17), (18, 18), (19, 19), (20, 20), (21, 21)] [(ch 1000), (ch 1003)] = some Zw.p2 := by kernel_rfl
noncomputable def Zw.t40 : List SE := ncL [Zw.sl 1001 200,
  ⟨.bin .lss, (ch 1001), (.int .i64 100), (.bool false)⟩,
  ⟨.bin .add, (ch 1001), (.int .i64 1), (ch 1002)⟩]
theorem Zw.i40 : Zw.d8.sub 8 [] (idl 8 Zw.d8.objs) (idA 2) (Zw.d8.st 8 []) = true := by kernel_rfl
theorem Zw.r40 : leafNext (fK (Tryz.Es Tryz.m3 (syOf Zw.t40)) 100000 100000 Zw.p2 (Zw.d8.st 8 []) 1) 8 Zw.d19 [(10, 10), (11, 11), (12, 12), (13, 25), (14, 13), (15, 14), (16, 23), (17, 15), (18, 16), (19, 17), (20, 18), (21, 19), (22, 20), (23, 21)] [(ch 1000), (ch 1002)] = some Zw.p2 := by kernel_rfl
noncomputable def Zw.t43 : List SE := ncL [Zw.sl 1001 200,
  Zw.sl 1001 100,
  ⟨.len, (ch 1000), (.int .i64 0), (ch 1002)⟩,
  ⟨.bin .lss, (ch 1001), (ch 1002), (.bool false)⟩,
  ⟨.bin .add, (ch 1001), (.int .i64 1), (ch 1003)⟩]
theorem Zw.i43 : Zw.d9.sub 8 [] (idl 8 Zw.d9.objs) (idA 2) (Zw.d9.st 8 []) = true := by kernel_rfl
theorem Zw.r43 : leafNext (fK (Tryz.Es Tryz.m3 (syOf Zw.t43)) 100000 100000 Zw.p2 (Zw.d9.st 8 []) 1) 8 Zw.d20 [(10, 10), (11, 11), (12, 12), (13, 26), (14, 13), (15, 14), (16, 24), (17, 15), (18, 16), (19, 17), (20, 18), (21, 19), (22, 20), (23, 21), (24, 22)] [(ch 1000), (ch 1003)] = some Zw.p2 := by kernel_rfl
noncomputable def Zw.t46 : List SE := ncL [Zw.sl 1001 200,
  Zw.sl 1001 100,
  ⟨.len, (ch 1000), (.int .i64 0), (ch 1002)⟩,
  ⟨.bin .lss, (ch 1001), (ch 1002), (.bool true)⟩,
  ⟨.idx 1, (ch 1000), (ch 1001), (.pointer (some ⟨8, 0, none⟩))⟩,
  ⟨.bin .add, (ch 1001), (.int .i64 1), (ch 1003)⟩]
theorem Zw.i46 : Zw.d10.sub 8 [[(.bool false)]] (idl 8 Zw.d10.objs) (idA 2) (Zw.d10.st 8 []) = true := by kernel_rfl
theorem Zw.r46 : leafNext (fK (Tryz.Es Tryz.m3 (syOf Zw.t46)) 100000 100000 Zw.p2 (Zw.d10.st 8 [[(.bool false)]]) 1) 8 Zw.d21 [(10, 10), (11, 11), (12, 12), (13, 27), (14, 13), (15, 14), (16, 25), (17, 15), (18, 16), (19, 17), (20, 18), (21, 19), (22, 20), (23, 21), (24, 22), (25, 23)] [(ch 1000), (ch 1003)] = some Zw.p2 := by kernel_rfl
noncomputable def Zw.t49 : List SE := ncL [Zw.sl 1001 200,
  Zw.sl 1001 100,
  ⟨.len, (ch 1000), (.int .i64 0), (ch 1002)⟩,
  ⟨.bin .lss, (ch 1001), (ch 1002), (.bool true)⟩,
  ⟨.idx 1, (ch 1000), (ch 1001), (.pointer (some ⟨8, 0, none⟩))⟩,
  ⟨.bin .add, (ch 1001), (.int .i64 1), (ch 1003)⟩]
theorem Zw.i49 : Zw.d11.sub 8 [[(.bool true)]] (idl 8 Zw.d11.objs) (idA 2) (Zw.d11.st 8 []) = true := by kernel_rfl
theorem Zw.r49 : leafNext (fK (Tryz.Es Tryz.m3 (syOf Zw.t49)) 100000 100000 Zw.p2 (Zw.d11.st 8 [[(.bool true)]]) 1) 8 Zw.d11 [(10, 10), (11, 11), (12, 12), (13, 13), (14, 14), (15, 15), (16, 16), (17, 17), (18, 18), (19, 19), (20, 20), (21, 21), (22, 22), (23, 23), (24, 24)] [(ch 1000), (ch 1003)] = some Zw.p2 := by kernel_rfl
noncomputable def Zw.t52 : List SE := ncL [Zw.sl 1001 200,
  ⟨.bin .lss, (ch 1001), (.int .i64 100), (.bool false)⟩,
  ⟨.bin .add, (ch 1001), (.int .i64 1), (ch 1002)⟩]
theorem Zw.i52 : Zw.d11.sub 8 [] (idl 8 Zw.d11.objs) (idA 2) (Zw.d11.st 8 []) = true := by kernel_rfl
theorem Zw.r52 : leafNext (fK (Tryz.Es Tryz.m3 (syOf Zw.t52)) 100000 100000 Zw.p2 (Zw.d11.st 8 []) 1) 8 Zw.d22 [(10, 10), (11, 11), (12, 12), (13, 28), (14, 13), (15, 14), (16, 26), (17, 15), (18, 16), (19, 17), (20, 18), (21, 19), (22, 20), (23, 21), (24, 22), (25, 23), (26, 24)] [(ch 1000), (ch 1002)] = some Zw.p2 := by kernel_rfl
noncomputable def Zw.t55 : List SE := ncL [Zw.sl 1001 200,
  Zw.sl 1001 100,
  ⟨.len, (ch 1000), (.int .i64 0), (ch 1002)⟩,
  ⟨.bin .lss, (ch 1001), (ch 1002), (.bool false)⟩,
  ⟨.bin .add, (ch 1001), (.int .i64 1), (ch 1003)⟩]
theorem Zw.i55 : Zw.d12.sub 8 [] (idl 8 Zw.d12.objs) (idA 2) (Zw.d12.st 8 []) = true := by kernel_rfl
theorem Zw.r55 : leafNext (fK (Tryz.Es Tryz.m3 (syOf Zw.t55)) 100000 100000 Zw.p2 (Zw.d12.st 8 []) 1) 8 Zw.d23 [(10, 10), (11, 11), (12, 12), (13, 29), (14, 13), (15, 14), (16, 27), (17, 15), (18, 16), (19, 17), (20, 18), (21, 19), (22, 20), (23, 21), (24, 22), (25, 23), (26, 24), (27, 25)] [(ch 1000), (ch 1003)] = some Zw.p2 := by kernel_rfl
noncomputable def Zw.t58 : List SE := ncL [Zw.sl 1001 200,
  Zw.sl 1001 100,
  ⟨.len, (ch 1000), (.int .i64 0), (ch 1002)⟩,
  ⟨.bin .lss, (ch 1001), (ch 1002), (.bool true)⟩,
  ⟨.idx 1, (ch 1000), (ch 1001), (.pointer (some ⟨8, 0, none⟩))⟩,
  ⟨.bin .add, (ch 1001), (.int .i64 1), (ch 1003)⟩]
theorem Zw.i58 : Zw.d14.sub 8 [[(.bool true)]] (idl 8 Zw.d14.objs) (idA 2) (Zw.d14.st 8 []) = true := by kernel_rfl
theorem Zw.r58 : leafNext (fK (Tryz.Es Tryz.m3 (syOf Zw.t58)) 100000 100000 Zw.p2 (Zw.d14.st 8 [[(.bool true)]]) 1) 8 Zw.d14 [(10, 10), (11, 11), (12, 12), (13, 13), (14, 14), (15, 15), (16, 16), (17, 17), (18, 18)] [(ch 1000), (ch 1003)] = some Zw.p2 := by kernel_rfl
noncomputable def Zw.t61 : List SE := ncL [Zw.sl 1001 200,
  ⟨.bin .lss, (ch 1001), (.int .i64 100), (.bool false)⟩,
  ⟨.bin .add, (ch 1001), (.int .i64 1), (ch 1002)⟩]
theorem Zw.i61 : Zw.d14.sub 8 [] (idl 8 Zw.d14.objs) (idA 2) (Zw.d14.st 8 []) = true := by kernel_rfl
theorem Zw.r61 : leafNext (fK (Tryz.Es Tryz.m3 (syOf Zw.t61)) 100000 100000 Zw.p2 (Zw.d14.st 8 []) 1) 8 Zw.d24 [(10, 10), (11, 11), (12, 12), (13, 23), (14, 14), (15, 15), (16, 16), (17, 21), (18, 17), (19, 18)] [(ch 1000), (ch 1002)] = some Zw.p2 := by kernel_rfl
noncomputable def Zw.t64 : List SE := ncL [Zw.sl 1001 200,
  Zw.sl 1001 100,
  ⟨.len, (ch 1000), (.int .i64 0), (ch 1002)⟩,
  ⟨.bin .lss, (ch 1001), (ch 1002), (.bool false)⟩,
  ⟨.bin .add, (ch 1001), (.int .i64 1), (ch 1003)⟩]
theorem Zw.i64 : Zw.d15.sub 8 [] (idl 8 Zw.d15.objs) (idA 2) (Zw.d15.st 8 []) = true := by kernel_rfl
theorem Zw.r64 : leafNext (fK (Tryz.Es Tryz.m3 (syOf Zw.t64)) 100000 100000 Zw.p2 (Zw.d15.st 8 []) 1) 8 Zw.d25 [(10, 10), (11, 11), (12, 12), (13, 24), (14, 14), (15, 15), (16, 16), (17, 22), (18, 17), (19, 18), (20, 19)] [(ch 1000), (ch 1003)] = some Zw.p2 := by kernel_rfl
noncomputable def Zw.t67 : List SE := ncL [Zw.sl 1001 200,
  Zw.sl 1001 100,
  ⟨.len, (ch 1000), (.int .i64 0), (ch 1002)⟩,
  ⟨.bin .lss, (ch 1001), (ch 1002), (.bool true)⟩,
  ⟨.idx 1, (ch 1000), (ch 1001), (.pointer (some ⟨8, 0, none⟩))⟩,
  ⟨.bin .add, (ch 1001), (.int .i64 1), (ch 1003)⟩]
theorem Zw.i67 : Zw.d16.sub 8 [[(.bool false)]] (idl 8 Zw.d16.objs) (idA 2) (Zw.d16.st 8 []) = true := by kernel_rfl
theorem Zw.r67 : leafNext (fK (Tryz.Es Tryz.m3 (syOf Zw.t67)) 100000 100000 Zw.p2 (Zw.d16.st 8 [[(.bool false)]]) 1) 8 Zw.d26 [(10, 10), (11, 11), (12, 12), (13, 25), (14, 14), (15, 15), (16, 16), (17, 23), (18, 17), (19, 18), (20, 19), (21, 20)] [(ch 1000), (ch 1003)] = some Zw.p2 := by kernel_rfl
noncomputable def Zw.t70 : List SE := ncL [Zw.sl 1001 200,
  Zw.sl 1001 100,
  ⟨.len, (ch 1000), (.int .i64 0), (ch 1002)⟩,
  ⟨.bin .lss, (ch 1001), (ch 1002), (.bool true)⟩,
  ⟨.idx 1, (ch 1000), (ch 1001), (.pointer (some ⟨8, 0, none⟩))⟩,
  ⟨.bin .add, (ch 1001), (.int .i64 1), (ch 1003)⟩]
theorem Zw.i70 : Zw.d17.sub 8 [[(.bool true)]] (idl 8 Zw.d17.objs) (idA 2) (Zw.d17.st 8 []) = true := by kernel_rfl
theorem Zw.r70 : leafNext (fK (Tryz.Es Tryz.m3 (syOf Zw.t70)) 100000 100000 Zw.p2 (Zw.d17.st 8 [[(.bool true)]]) 1) 8 Zw.d17 [(10, 10), (11, 11), (12, 12), (13, 13), (14, 14), (15, 15), (16, 16), (17, 17), (18, 18), (19, 19), (20, 20), (21, 21)] [(ch 1000), (ch 1003)] = some Zw.p2 := by kernel_rfl
noncomputable def Zw.t73 : List SE := ncL [Zw.sl 1001 200,
  ⟨.bin .lss, (ch 1001), (.int .i64 100), (.bool false)⟩,
  ⟨.bin .add, (ch 1001), (.int .i64 1), (ch 1002)⟩]
theorem Zw.i73 : Zw.d17.sub 8 [] (idl 8 Zw.d17.objs) (idA 2) (Zw.d17.st 8 []) = true := by kernel_rfl
theorem Zw.r73 : leafNext (fK (Tryz.Es Tryz.m3 (syOf Zw.t73)) 100000 100000 Zw.p2 (Zw.d17.st 8 []) 1) 8 Zw.d27 [(10, 10), (11, 11), (12, 12), (13, 26), (14, 14), (15, 15), (16, 16), (17, 24), (18, 17), (19, 18), (20, 19), (21, 20), (22, 21)] [(ch 1000), (ch 1002)] = some Zw.p2 := by kernel_rfl
noncomputable def Zw.t76 : List SE := ncL [Zw.sl 1001 200,
  Zw.sl 1001 100,
  ⟨.len, (ch 1000), (.int .i64 0), (ch 1002)⟩,
  ⟨.bin .lss, (ch 1001), (ch 1002), (.bool false)⟩,
  ⟨.bin .add, (ch 1001), (.int .i64 1), (ch 1003)⟩]
theorem Zw.i76 : Zw.d18.sub 8 [] (idl 8 Zw.d18.objs) (idA 2) (Zw.d18.st 8 []) = true := by kernel_rfl
theorem Zw.r76 : leafNext (fK (Tryz.Es Tryz.m3 (syOf Zw.t76)) 100000 100000 Zw.p2 (Zw.d18.st 8 []) 1) 8 Zw.d28 [(10, 10), (11, 11), (12, 12), (13, 27), (14, 14), (15, 15), (16, 16), (17, 25), (18, 17), (19, 18), (20, 19), (21, 20), (22, 21), (23, 22)] [(ch 1000), (ch 1003)] = some Zw.p2 := by kernel_rfl
noncomputable def Zw.t79 : List SE := ncL [Zw.sl 1001 200,
  Zw.sl 1001 100,
  ⟨.len, (ch 1000), (.int .i64 0), (ch 1002)⟩,
  ⟨.bin .lss, (ch 1001), (ch 1002), (.bool true)⟩,
  ⟨.idx 1, (ch 1000), (ch 1001), (.pointer (some ⟨8, 0, none⟩))⟩,
  ⟨.bin .add, (ch 1001), (.int .i64 1), (ch 1003)⟩]
theorem Zw.i79 : Zw.d19.sub 8 [[(.bool false)]] (idl 8 Zw.d19.objs) (idA 2) (Zw.d19.st 8 []) = true := by kernel_rfl
theorem Zw.r79 : leafNext (fK (Tryz.Es Tryz.m3 (syOf Zw.t79)) 100000 100000 Zw.p2 (Zw.d19.st 8 [[(.bool false)]]) 1) 8 Zw.d29 [(10, 10), (11, 11), (12, 12), (13, 28), (14, 14), (15, 15), (16, 16), (17, 26), (18, 17), (19, 18), (20, 19), (21, 20), (22, 21), (23, 22), (24, 23)] [(ch 1000), (ch 1003)] = some Zw.p2 := by kernel_rfl
noncomputable def Zw.t82 : List SE := ncL [Zw.sl 1001 200,
  Zw.sl 1001 100,
  ⟨.len, (ch 1000), (.int .i64 0), (ch 1002)⟩,
  ⟨.bin .lss, (ch 1001), (ch 1002), (.bool true)⟩,
  ⟨.idx 1, (ch 1000), (ch 1001), (.pointer (some ⟨8, 0, none⟩))⟩,
  ⟨.bin .add, (ch 1001), (.int .i64 1), (ch 1003)⟩]
theorem Zw.i82 : Zw.d20.sub 8 [[(.bool true)]] (idl 8 Zw.d20.objs) (idA 2) (Zw.d20.st 8 []) = true := by kernel_rfl
theorem Zw.r82 : leafNext (fK (Tryz.Es Tryz.m3 (syOf Zw.t82)) 100000 100000 Zw.p2 (Zw.d20.st 8 [[(.bool true)]]) 1) 8 Zw.d20 [(10, 10), (11, 11), (12, 12), (13, 13), (14, 14), (15, 15), (16, 16), (17, 17), (18, 18), (19, 19), (20, 20), (21, 21), (22, 22), (23, 23), (24, 24)] [(ch 1000), (ch 1003)] = some Zw.p2 := by kernel_rfl
noncomputable def Zw.t85 : List SE := ncL [Zw.sl 1001 200,
  ⟨.bin .lss, (ch 1001), (.int .i64 100), (.bool false)⟩,
  ⟨.bin .add, (ch 1001), (.int .i64 1), (ch 1002)⟩]
theorem Zw.i85 : Zw.d20.sub 8 [] (idl 8 Zw.d20.objs) (idA 2) (Zw.d20.st 8 []) = true := by kernel_rfl
theorem Zw.r85 : leafNext (fK (Tryz.Es Tryz.m3 (syOf Zw.t85)) 100000 100000 Zw.p2 (Zw.d20.st 8 []) 1) 8 Zw.d30 [(10, 10), (11, 11), (12, 12), (13, 29), (14, 14), (15, 15), (16, 16), (17, 27), (18, 17), (19, 18), (20, 19), (21, 20), (22, 21), (23, 22), (24, 23), (25, 24)] [(ch 1000), (ch 1002)] = some Zw.p2 := by kernel_rfl
noncomputable def Zw.t88 : List SE := ncL [Zw.sl 1001 200,
  Zw.sl 1001 100,
  ⟨.len, (ch 1000), (.int .i64 0), (ch 1002)⟩,
  ⟨.bin .lss, (ch 1001), (ch 1002), (.bool false)⟩,
  ⟨.bin .add, (ch 1001), (.int .i64 1), (ch 1003)⟩]
theorem Zw.i88 : Zw.d21.sub 8 [] (idl 8 Zw.d21.objs) (idA 2) (Zw.d21.st 8 []) = true := by kernel_rfl
theorem Zw.r88 : leafNext (fK (Tryz.Es Tryz.m3 (syOf Zw.t88)) 100000 100000 Zw.p2 (Zw.d21.st 8 []) 1) 8 Zw.d31 [(10, 10), (11, 11), (12, 12), (13, 30), (14, 14), (15, 15), (16, 16), (17, 28), (18, 17), (19, 18), (20, 19), (21, 20), (22, 21), (23, 22), (24, 23), (25, 24), (26, 25)] [(ch 1000), (ch 1003)] = some Zw.p2 := by kernel_rfl
noncomputable def Zw.t91 : List SE := ncL [Zw.sl 1001 200,
  Zw.sl 1001 100,
  ⟨.len, (ch 1000), (.int .i64 0), (ch 1002)⟩,
  ⟨.bin .lss, (ch 1001), (ch 1002), (.bool true)⟩,
  ⟨.idx 1, (ch 1000), (ch 1001), (.pointer (some ⟨8, 0, none⟩))⟩,
  ⟨.bin .add, (ch 1001), (.int .i64 1), (ch 1003)⟩]
theorem Zw.i91 : Zw.d22.sub 8 [[(.bool false)]] (idl 8 Zw.d22.objs) (idA 2) (Zw.d22.st 8 []) = true := by kernel_rfl
theorem Zw.r91 : leafNext (fK (Tryz.Es Tryz.m3 (syOf Zw.t91)) 100000 100000 Zw.p2 (Zw.d22.st 8 [[(.bool false)]]) 1) 8 Zw.d32 [(10, 10), (11, 11), (12, 12), (13, 31), (14, 14), (15, 15), (16, 16), (17, 29), (18, 17), (19, 18), (20, 19), (21, 20), (22, 21), (23, 22), (24, 23), (25, 24), (26, 25), (27, 26)] [(ch 1000), (ch 1003)] = some Zw.p2 := by kernel_rfl
noncomputable def Zw.t94 : List SE := ncL [Zw.sl 1001 200,
  Zw.sl 1001 100,
  ⟨.len, (ch 1000), (.int .i64 0), (ch 1002)⟩,
  ⟨.bin .lss, (ch 1001), (ch 1002), (.bool true)⟩,
  ⟨.idx 1, (ch 1000), (ch 1001), (.pointer (some ⟨8, 0, none⟩))⟩,
  ⟨.bin .add, (ch 1001), (.int .i64 1), (ch 1003)⟩]
theorem Zw.i94 : Zw.d23.sub 8 [[(.bool true)]] (idl 8 Zw.d23.objs) (idA 2) (Zw.d23.st 8 []) = true := by kernel_rfl
theorem Zw.r94 : leafNext (fK (Tryz.Es Tryz.m3 (syOf Zw.t94)) 100000 100000 Zw.p2 (Zw.d23.st 8 [[(.bool true)]]) 1) 8 Zw.d23 [(10, 10), (11, 11), (12, 12), (13, 13), (14, 14), (15, 15), (16, 16), (17, 17), (18, 18), (19, 19), (20, 20), (21, 21), (22, 22), (23, 23), (24, 24), (25, 25), (26, 26), (27, 27)] [(ch 1000), (ch 1003)] = some Zw.p2 := by kernel_rfl
noncomputable def Zw.t97 : List SE := ncL [Zw.sl 1001 200,
  ⟨.bin .lss, (ch 1001), (.int .i64 100), (.bool false)⟩,
  ⟨.bin .add, (ch 1001), (.int .i64 1), (ch 1002)⟩]
theorem Zw.i97 : Zw.d23.sub 8 [] (idl 8 Zw.d23.objs) (idA 2) (Zw.d23.st 8 []) = true := by kernel_rfl
theorem Zw.r97 : leafNext (fK (Tryz.Es Tryz.m3 (syOf Zw.t97)) 100000 100000 Zw.p2 (Zw.d23.st 8 []) 1) 8 Zw.d33 [(10, 10), (11, 11), (12, 12), (13, 32), (14, 14), (15, 15), (16, 16), (17, 30), (18, 17), (19, 18), (20, 19), (21, 20), (22, 21), (23, 22), (24, 23), (25, 24), (26, 25), (27, 26), (28, 27)] [(ch 1000), (ch 1002)] = some Zw.p2 := by kernel_rfl
noncomputable def Zw.t100 : List SE := ncL [Zw.sl 1001 200,
  Zw.sl 1001 100,
  ⟨.len, (ch 1000), (.int .i64 0), (ch 1002)⟩,
  ⟨.bin .lss, (ch 1001), (ch 1002), (.bool true)⟩,
  ⟨.idx 1, (ch 1000), (ch 1001), (.pointer (some ⟨8, 0, none⟩))⟩,
  ⟨.bin .add, (ch 1001), (.int .i64 1), (ch 1003)⟩]
theorem Zw.i100 : Zw.d25.sub 8 [[(.bool false)]] (idl 8 Zw.d25.objs) (idA 2) (Zw.d25.st 8 []) = true := by kernel_rfl
theorem Zw.r100 : leafNext (fK (Tryz.Es Tryz.m3 (syOf Zw.t100)) 100000 100000 Zw.p2 (Zw.d25.st 8 [[(.bool false)]]) 1) 8 Zw.d34 [(10, 10), (11, 11), (12, 12), (13, 25), (14, 14), (15, 15), (16, 16), (17, 17), (18, 23), (19, 18), (20, 19), (21, 20)] [(ch 1000), (ch 1003)] = some Zw.p2 := by kernel_rfl
noncomputable def Zw.t103 : List SE := ncL [Zw.sl 1001 200,
  Zw.sl 1001 100,
  ⟨.len, (ch 1000), (.int .i64 0), (ch 1002)⟩,
  ⟨.bin .lss, (ch 1001), (ch 1002), (.bool true)⟩,
  ⟨.idx 1, (ch 1000), (ch 1001), (.pointer (some ⟨8, 0, none⟩))⟩,
  ⟨.bin .add, (ch 1001), (.int .i64 1), (ch 1003)⟩]
theorem Zw.i103 : Zw.d26.sub 8 [[(.bool true)]] (idl 8 Zw.d26.objs) (idA 2) (Zw.d26.st 8 []) = true := by kernel_rfl
theorem Zw.r103 : leafNext (fK (Tryz.Es Tryz.m3 (syOf Zw.t103)) 100000 100000 Zw.p2 (Zw.d26.st 8 [[(.bool true)]]) 1) 8 Zw.d26 [(10, 10), (11, 11), (12, 12), (13, 13), (14, 14), (15, 15), (16, 16), (17, 17), (18, 18), (19, 19), (20, 20), (21, 21)] [(ch 1000), (ch 1003)] = some Zw.p2 := by kernel_rfl
noncomputable def Zw.t106 : List SE := ncL [Zw.sl 1001 200,
  ⟨.bin .lss, (ch 1001), (.int .i64 100), (.bool false)⟩,
  ⟨.bin .add, (ch 1001), (.int .i64 1), (ch 1002)⟩]
theorem Zw.i106 : Zw.d26.sub 8 [] (idl 8 Zw.d26.objs) (idA 2) (Zw.d26.st 8 []) = true := by kernel_rfl
theorem Zw.r106 : leafNext (fK (Tryz.Es Tryz.m3 (syOf Zw.t106)) 100000 100000 Zw.p2 (Zw.d26.st 8 []) 1) 8 Zw.d35 [(10, 10), (11, 11), (12, 12), (13, 26), (14, 14), (15, 15), (16, 16), (17, 17), (18, 24), (19, 18), (20, 19), (21, 20), (22, 21)] [(ch 1000), (ch 1002)] = some Zw.p2 := by kernel_rfl
noncomputable def Zw.t109 : List SE := ncL [Zw.sl 1001 200,
  Zw.sl 1001 100,
  ⟨.len, (ch 1000), (.int .i64 0), (ch 1002)⟩,
  ⟨.bin .lss, (ch 1001), (ch 1002), (.bool false)⟩,
  ⟨.bin .add, (ch 1001), (.int .i64 1), (ch 1003)⟩]
theorem Zw.i109 : Zw.d27.sub 8 [] (idl 8 Zw.d27.objs) (idA 2) (Zw.d27.st 8 []) = true := by kernel_rfl
theorem Zw.r109 : leafNext (fK (Tryz.Es Tryz.m3 (syOf Zw.t109)) 100000 100000 Zw.p2 (Zw.d27.st 8 []) 1) 8 Zw.d36 [(10, 10), (11, 11), (12, 12), (13, 27), (14, 14), (15, 15), (16, 16), (17, 17), (18, 25), (19, 18), (20, 19), (21, 20), (22, 21), (23, 22)] [(ch 1000), (ch 1003)] = some Zw.p2 := by kernel_rfl
noncomputable def Zw.t112 : List SE := ncL [Zw.sl 1001 200,
  Zw.sl 1001 100,
  ⟨.len, (ch 1000), (.int .i64 0), (ch 1002)⟩,
  ⟨.bin .lss, (ch 1001), (ch 1002), (.bool true)⟩,
  ⟨.idx 1, (ch 1000), (ch 1001), (.pointer (some ⟨8, 0, none⟩))⟩,
  ⟨.bin .add, (ch 1001), (.int .i64 1), (ch 1003)⟩]
theorem Zw.i112 : Zw.d28.sub 8 [[(.bool false)]] (idl 8 Zw.d28.objs) (idA 2) (Zw.d28.st 8 []) = true := by kernel_rfl
theorem Zw.r112 : leafNext (fK (Tryz.Es Tryz.m3 (syOf Zw.t112)) 100000 100000 Zw.p2 (Zw.d28.st 8 [[(.bool false)]]) 1) 8 Zw.d37 [(10, 10), (11, 11), (12, 12), (13, 28), (14, 14), (15, 15), (16, 16), (17, 17), (18, 26), (19, 18), (20, 19), (21, 20), (22, 21), (23, 22), (24, 23)] [(ch 1000), (ch 1003)] = some Zw.p2 := by kernel_rfl
noncomputable def Zw.t115 : List SE := ncL [Zw.sl 1001 200,
  Zw.sl 1001 100,
  ⟨.len, (ch 1000), (.int .i64 0), (ch 1002)⟩,
  ⟨.bin .lss, (ch 1001), (ch 1002), (.bool true)⟩,
  ⟨.idx 1, (ch 1000), (ch 1001), (.pointer (some ⟨8, 0, none⟩))⟩,
  ⟨.bin .add, (ch 1001), (.int .i64 1), (ch 1003)⟩]
theorem Zw.i115 : Zw.d29.sub 8 [[(.bool true)]] (idl 8 Zw.d29.objs) (idA 2) (Zw.d29.st 8 []) = true := by kernel_rfl
theorem Zw.r115 : leafNext (fK (Tryz.Es Tryz.m3 (syOf Zw.t115)) 100000 100000 Zw.p2 (Zw.d29.st 8 [[(.bool true)]]) 1) 8 Zw.d29 [(10, 10), (11, 11), (12, 12), (13, 13), (14, 14), (15, 15), (16, 16), (17, 17), (18, 18), (19, 19), (20, 20), (21, 21), (22, 22), (23, 23), (24, 24)] [(ch 1000), (ch 1003)] = some Zw.p2 := by kernel_rfl
noncomputable def Zw.t118 : List SE := ncL [Zw.sl 1001 200,
  ⟨.bin .lss, (ch 1001), (.int .i64 100), (.bool false)⟩,
  ⟨.bin .add, (ch 1001), (.int .i64 1), (ch 1002)⟩]
theorem Zw.i118 : Zw.d29.sub 8 [] (idl 8 Zw.d29.objs) (idA 2) (Zw.d29.st 8 []) = true := by kernel_rfl
theorem Zw.r118 : leafNext (fK (Tryz.Es Tryz.m3 (syOf Zw.t118)) 100000 100000 Zw.p2 (Zw.d29.st 8 []) 1) 8 Zw.d38 [(10, 10), (11, 11), (12, 12), (13, 29), (14, 14), (15, 15), (16, 16), (17, 17), (18, 27), (19, 18), (20, 19), (21, 20), (22, 21), (23, 22), (24, 23), (25, 24)] [(ch 1000), (ch 1002)] = some Zw.p2 := by kernel_rfl
noncomputable def Zw.t121 : List SE := ncL [Zw.sl 1001 200,
  Zw.sl 1001 100,
  ⟨.len, (ch 1000), (.int .i64 0), (ch 1002)⟩,
  ⟨.bin .lss, (ch 1001), (ch 1002), (.bool false)⟩,
  ⟨.bin .add, (ch 1001), (.int .i64 1), (ch 1003)⟩]
theorem Zw.i121 : Zw.d30.sub 8 [] (idl 8 Zw.d30.objs) (idA 2) (Zw.d30.st 8 []) = true := by kernel_rfl
theorem Zw.r121 : leafNext (fK (Tryz.Es Tryz.m3 (syOf Zw.t121)) 100000 100000 Zw.p2 (Zw.d30.st 8 []) 1) 8 Zw.d39 [(10, 10), (11, 11), (12, 12), (13, 30), (14, 14), (15, 15), (16, 16), (17, 17), (18, 28), (19, 18), (20, 19), (21, 20), (22, 21), (23, 22), (24, 23), (25, 24), (26, 25)] [(ch 1000), (ch 1003)] = some Zw.p2 := by kernel_rfl
noncomputable def Zw.t124 : List SE := ncL [Zw.sl 1001 200,
  Zw.sl 1001 100,
  ⟨.len, (ch 1000), (.int .i64 0), (ch 1002)⟩,
  ⟨.bin .lss, (ch 1001), (ch 1002), (.bool true)⟩,
  ⟨.idx 1, (ch 1000), (ch 1001), (.pointer (some ⟨8, 0, none⟩))⟩,
  ⟨.bin .add, (ch 1001), (.int .i64 1), (ch 1003)⟩]
theorem Zw.i124 : Zw.d31.sub 8 [[(.bool false)]] (idl 8 Zw.d31.objs) (idA 2) (Zw.d31.st 8 []) = true := by kernel_rfl
theorem Zw.r124 : leafNext (fK (Tryz.Es Tryz.m3 (syOf Zw.t124)) 100000 100000 Zw.p2 (Zw.d31.st 8 [[(.bool false)]]) 1) 8 Zw.d40 [(10, 10), (11, 11), (12, 12), (13, 31), (14, 14), (15, 15), (16, 16), (17, 17), (18, 29), (19, 18), (20, 19), (21, 20), (22, 21), (23, 22), (24, 23), (25, 24), (26, 25), (27, 26)] [(ch 1000), (ch 1003)] = some Zw.p2 := by kernel_rfl
noncomputable def Zw.t127 : List SE := ncL [Zw.sl 1001 200,
  Zw.sl 1001 100,
  ⟨.len, (ch 1000), (.int .i64 0), (ch 1002)⟩,
  ⟨.bin .lss, (ch 1001), (ch 1002), (.bool true)⟩,
  ⟨.idx 1, (ch 1000), (ch 1001), (.pointer (some ⟨8, 0, none⟩))⟩,
  ⟨.bin .add, (ch 1001), (.int .i64 1), (ch 1003)⟩]
theorem Zw.i127 : Zw.d32.sub 8 [[(.bool true)]] (idl 8 Zw.d32.objs) (idA 2) (Zw.d32.st 8 []) = true := by kernel_rfl
theorem Zw.r127 : leafNext (fK (Tryz.Es Tryz.m3 (syOf Zw.t127)) 100000 100000 Zw.p2 (Zw.d32.st 8 [[(.bool true)]]) 1) 8 Zw.d32 [(10, 10), (11, 11), (12, 12), (13, 13), (14, 14), (15, 15), (16, 16), (17, 17), (18, 18), (19, 19), (20, 20), (21, 21), (22, 22), (23, 23), (24, 24), (25, 25), (26, 26), (27, 27)] [(ch 1000), (ch 1003)] = some Zw.p2 := by kernel_rfl
noncomputable def Zw.t130 : List SE := ncL [Zw.sl 1001 200,
  ⟨.bin .lss, (ch 1001), (.int .i64 100), (.bool false)⟩,
  ⟨.bin .add, (ch 1001), (.int .i64 1), (ch 1002)⟩]
theorem Zw.i130 : Zw.d32.sub 8 [] (idl 8 Zw.d32.objs) (idA 2) (Zw.d32.st 8 []) = true := by kernel_rfl
theorem Zw.r130 : leafNext (fK (Tryz.Es Tryz.m3 (syOf Zw.t130)) 100000 100000 Zw.p2 (Zw.d32.st 8 []) 1) 8 Zw.d41 [(10, 10), (11, 11), (12, 12), (13, 32), (14, 14), (15, 15), (16, 16), (17, 17), (18, 30), (19, 18), (20, 19), (21, 20), (22, 21), (23, 22), (24, 23), (25, 24), (26, 25), (27, 26), (28, 27)] [(ch 1000), (ch 1002)] = some Zw.p2 := by kernel_rfl
noncomputable def Zw.t133 : List SE := ncL [Zw.sl 1001 200,
  Zw.sl 1001 100,
  ⟨.len, (ch 1000), (.int .i64 0), (ch 1002)⟩,
  ⟨.bin .lss, (ch 1001), (ch 1002), (.bool false)⟩,
  ⟨.bin .add, (ch 1001), (.int .i64 1), (ch 1003)⟩]
theorem Zw.i133 : Zw.d33.sub 8 [] (idl 8 Zw.d33.objs) (idA 2) (Zw.d33.st 8 []) = true := by kernel_rfl
theorem Zw.r133 : leafNext (fK (Tryz.Es Tryz.m3 (syOf Zw.t133)) 100000 100000 Zw.p2 (Zw.d33.st 8 []) 1) 8 Zw.d42 [(10, 10), (11, 11), (12, 12), (13, 33), (14, 14), (15, 15), (16, 16), (17, 17), (18, 31), (19, 18), (20, 19), (21, 20), (22, 21), (23, 22), (24, 23), (25, 24), (26, 25), (27, 26), (28, 27), (29, 28)] [(ch 1000), (ch 1003)] = some Zw.p2 := by kernel_rfl
noncomputable def Zw.t136 : List SE := ncL [Zw.sl 1001 200,
  Zw.sl 1001 100,
  ⟨.len, (ch 1000), (.int .i64 0), (ch 1002)⟩,
  ⟨.bin .lss, (ch 1001), (ch 1002), (.bool true)⟩,
  ⟨.idx 1, (ch 1000), (ch 1001), (.pointer (some ⟨8, 0, none⟩))⟩,
  ⟨.bin .add, (ch 1001), (.int .i64 1), (ch 1003)⟩]
theorem Zw.i136 : Zw.d35.sub 8 [[(.bool true)]] (idl 8 Zw.d35.objs) (idA 2) (Zw.d35.st 8 []) = true := by kernel_rfl
theorem Zw.r136 : leafNext (fK (Tryz.Es Tryz.m3 (syOf Zw.t136)) 100000 100000 Zw.p2 (Zw.d35.st 8 [[(.bool true)]]) 1) 8 Zw.d35 [(10, 10), (11, 11), (12, 12), (13, 13), (14, 14), (15, 15), (16, 16), (17, 17), (18, 18), (19, 19), (20, 20), (21, 21), (22, 22)] [(ch 1000), (ch 1003)] = some Zw.p2 := by kernel_rfl
noncomputable def Zw.t139 : List SE := ncL [Zw.sl 1001 200,
  ⟨.bin .lss, (ch 1001), (.int .i64 100), (.bool false)⟩,
  ⟨.bin .add, (ch 1001), (.int .i64 1), (ch 1002)⟩]
theorem Zw.i139 : Zw.d35.sub 8 [] (idl 8 Zw.d35.objs) (idA 2) (Zw.d35.st 8 []) = true := by kernel_rfl
theorem Zw.r139 : leafNext (fK (Tryz.Es Tryz.m3 (syOf Zw.t139)) 100000 100000 Zw.p2 (Zw.d35.st 8 []) 1) 8 Zw.d43 [(10, 10), (11, 11), (12, 12), (13, 28), (14, 14), (15, 15), (16, 16), (17, 17), (18, 18), (19, 26), (20, 19), (21, 20), (22, 21), (23, 22)] [(ch 1000), (ch 1002)] = some Zw.p2 := by kernel_rfl
noncomputable def Zw.t142 : List SE := ncL [Zw.sl 1001 200,
  Zw.sl 1001 100,
  ⟨.len, (ch 1000), (.int .i64 0), (ch 1002)⟩,
  ⟨.bin .lss, (ch 1001), (ch 1002), (.bool false)⟩,
  ⟨.bin .add, (ch 1001), (.int .i64 1), (ch 1003)⟩]
theorem Zw.i142 : Zw.d36.sub 8 [] (idl 8 Zw.d36.objs) (idA 2) (Zw.d36.st 8 []) = true := by kernel_rfl
theorem Zw.r142 : leafNext (fK (Tryz.Es Tryz.m3 (syOf Zw.t142)) 100000 100000 Zw.p2 (Zw.d36.st 8 []) 1) 8 Zw.d44 [(10, 10), (11, 11), (12, 12), (13, 29), (14, 14), (15, 15), (16, 16), (17, 17), (18, 18), (19, 27), (20, 19), (21, 20), (22, 21), (23, 22), (24, 23)] [(ch 1000), (ch 1003)] = some Zw.p2 := by kernel_rfl
noncomputable def Zw.t145 : List SE := ncL [Zw.sl 1001 200,
  Zw.sl 1001 100,
  ⟨.len, (ch 1000), (.int .i64 0), (ch 1002)⟩,
  ⟨.bin .lss, (ch 1001), (ch 1002), (.bool true)⟩,
  ⟨.idx 1, (ch 1000), (ch 1001), (.pointer (some ⟨8, 0, none⟩))⟩,
  ⟨.bin .add, (ch 1001), (.int .i64 1), (ch 1003)⟩]
theorem Zw.i145 : Zw.d37.sub 8 [[(.bool false)]] (idl 8 Zw.d37.objs) (idA 2) (Zw.d37.st 8 []) = true := by kernel_rfl
theorem Zw.r145 : leafNext (fK (Tryz.Es Tryz.m3 (syOf Zw.t145)) 100000 100000 Zw.p2 (Zw.d37.st 8 [[(.bool false)]]) 1) 8 Zw.d45 [(10, 10), (11, 11), (12, 12), (13, 30), (14, 14), (15, 15), (16, 16), (17, 17), (18, 18), (19, 28), (20, 19), (21, 20), (22, 21), (23, 22), (24, 23), (25, 24)] [(ch 1000), (ch 1003)] = some Zw.p2 := by kernel_rfl
noncomputable def Zw.t148 : List SE := ncL [Zw.sl 1001 200,
  Zw.sl 1001 100,
  ⟨.len, (ch 1000), (.int .i64 0), (ch 1002)⟩,
  ⟨.bin .lss, (ch 1001), (ch 1002), (.bool true)⟩,
  ⟨.idx 1, (ch 1000), (ch 1001), (.pointer (some ⟨8, 0, none⟩))⟩,
  ⟨.bin .add, (ch 1001), (.int .i64 1), (ch 1003)⟩]
theorem Zw.i148 : Zw.d38.sub 8 [[(.bool true)]] (idl 8 Zw.d38.objs) (idA 2) (Zw.d38.st 8 []) = true := by kernel_rfl
theorem Zw.r148 : leafNext (fK (Tryz.Es Tryz.m3 (syOf Zw.t148)) 100000 100000 Zw.p2 (Zw.d38.st 8 [[(.bool true)]]) 1) 8 Zw.d38 [(10, 10), (11, 11), (12, 12), (13, 13), (14, 14), (15, 15), (16, 16), (17, 17), (18, 18), (19, 19), (20, 20), (21, 21), (22, 22), (23, 23), (24, 24), (25, 25)] [(ch 1000), (ch 1003)] = some Zw.p2 := by kernel_rfl
noncomputable def Zw.t151 : List SE := ncL [Zw.sl 1001 200,
  ⟨.bin .lss, (ch 1001), (.int .i64 100), (.bool false)⟩,
  ⟨.bin .add, (ch 1001), (.int .i64 1), (ch 1002)⟩]
theorem Zw.i151 : Zw.d38.sub 8 [] (idl 8 Zw.d38.objs) (idA 2) (Zw.d38.st 8 []) = true := by kernel_rfl
theorem Zw.r151 : leafNext (fK (Tryz.Es Tryz.m3 (syOf Zw.t151)) 100000 100000 Zw.p2 (Zw.d38.st 8 []) 1) 8 Zw.d46 [(10, 10), (11, 11), (12, 12), (13, 31), (14, 14), (15, 15), (16, 16), (17, 17), (18, 18), (19, 29), (20, 19), (21, 20), (22, 21), (23, 22), (24, 23), (25, 24), (26, 25)] [(ch 1000), (ch 1002)] = some Zw.p2 := by kernel_rfl
noncomputable def Zw.t154 : List SE := ncL [Zw.sl 1001 200,
  Zw.sl 1001 100,
  ⟨.len, (ch 1000), (.int .i64 0), (ch 1002)⟩,
  ⟨.bin .lss, (ch 1001), (ch 1002), (.bool false)⟩,
  ⟨.bin .add, (ch 1001), (.int .i64 1), (ch 1003)⟩]
theorem Zw.i154 : Zw.d39.sub 8 [] (idl 8 Zw.d39.objs) (idA 2) (Zw.d39.st 8 []) = true := by kernel_rfl
theorem Zw.r154 : leafNext (fK (Tryz.Es Tryz.m3 (syOf Zw.t154)) 100000 100000 Zw.p2 (Zw.d39.st 8 []) 1) 8 Zw.d47 [(10, 10), (11, 11), (12, 12), (13, 32), (14, 14), (15, 15), (16, 16), (17, 17), (18, 18), (19, 30), (20, 19), (21, 20), (22, 21), (23, 22), (24, 23), (25, 24), (26, 25), (27, 26)] [(ch 1000), (ch 1003)] = some Zw.p2 := by kernel_rfl
noncomputable def Zw.t157 : List SE := ncL [Zw.sl 1001 200,
  Zw.sl 1001 100,
  ⟨.len, (ch 1000), (.int .i64 0), (ch 1002)⟩,
  ⟨.bin .lss, (ch 1001), (ch 1002), (.bool true)⟩,
  ⟨.idx 1, (ch 1000), (ch 1001), (.pointer (some ⟨8, 0, none⟩))⟩,
  ⟨.bin .add, (ch 1001), (.int .i64 1), (ch 1003)⟩]
theorem Zw.i157 : Zw.d40.sub 8 [[(.bool false)]] (idl 8 Zw.d40.objs) (idA 2) (Zw.d40.st 8 []) = true := by kernel_rfl
theorem Zw.r157 : leafNext (fK (Tryz.Es Tryz.m3 (syOf Zw.t157)) 100000 100000 Zw.p2 (Zw.d40.st 8 [[(.bool false)]]) 1) 8 Zw.d48 [(10, 10), (11, 11), (12, 12), (13, 33), (14, 14), (15, 15), (16, 16), (17, 17), (18, 18), (19, 31), (20, 19), (21, 20), (22, 21), (23, 22), (24, 23), (25, 24), (26, 25), (27, 26), (28, 27)] [(ch 1000), (ch 1003)] = some Zw.p2 := by kernel_rfl
noncomputable def Zw.t160 : List SE := ncL [Zw.sl 1001 200,
  Zw.sl 1001 100,
  ⟨.len, (ch 1000), (.int .i64 0), (ch 1002)⟩,
  ⟨.bin .lss, (ch 1001), (ch 1002), (.bool true)⟩,
  ⟨.idx 1, (ch 1000), (ch 1001), (.pointer (some ⟨8, 0, none⟩))⟩,
  ⟨.bin .add, (ch 1001), (.int .i64 1), (ch 1003)⟩]
theorem Zw.i160 : Zw.d41.sub 8 [[(.bool true)]] (idl 8 Zw.d41.objs) (idA 2) (Zw.d41.st 8 []) = true := by kernel_rfl
theorem Zw.r160 : leafNext (fK (Tryz.Es Tryz.m3 (syOf Zw.t160)) 100000 100000 Zw.p2 (Zw.d41.st 8 [[(.bool true)]]) 1) 8 Zw.d41 [(10, 10), (11, 11), (12, 12), (13, 13), (14, 14), (15, 15), (16, 16), (17, 17), (18, 18), (19, 19), (20, 20), (21, 21), (22, 22), (23, 23), (24, 24), (25, 25), (26, 26), (27, 27), (28, 28)] [(ch 1000), (ch 1003)] = some Zw.p2 := by kernel_rfl
noncomputable def Zw.t163 : List SE := ncL [Zw.sl 1001 200,
  ⟨.bin .lss, (ch 1001), (.int .i64 100), (.bool false)⟩,
  ⟨.bin .add, (ch 1001), (.int .i64 1), (ch 1002)⟩]
theorem Zw.i163 : Zw.d41.sub 8 [] (idl 8 Zw.d41.objs) (idA 2) (Zw.d41.st 8 []) = true := by kernel_rfl
theorem Zw.r163 : leafNext (fK (Tryz.Es Tryz.m3 (syOf Zw.t163)) 100000 100000 Zw.p2 (Zw.d41.st 8 []) 1) 8 Zw.d49 [(10, 10), (11, 11), (12, 12), (13, 34), (14, 14), (15, 15), (16, 16), (17, 17), (18, 18), (19, 32), (20, 19), (21, 20), (22, 21), (23, 22), (24, 23), (25, 24), (26, 25), (27, 26), (28, 27), (29, 28)] [(ch 1000), (ch 1002)] = some Zw.p2 := by kernel_rfl
noncomputable def Zw.t166 : List SE := ncL [Zw.sl 1001 200,
  Zw.sl 1001 100,
  ⟨.len, (ch 1000), (.int .i64 0), (ch 1002)⟩,
  ⟨.bin .lss, (ch 1001), (ch 1002), (.bool false)⟩,
  ⟨.bin .add, (ch 1001), (.int .i64 1), (ch 1003)⟩]
theorem Zw.i166 : Zw.d42.sub 8 [] (idl 8 Zw.d42.objs) (idA 2) (Zw.d42.st 8 []) = true := by kernel_rfl
theorem Zw.r166 : leafNext (fK (Tryz.Es Tryz.m3 (syOf Zw.t166)) 100000 100000 Zw.p2 (Zw.d42.st 8 []) 1) 8 Zw.d50 [(10, 10), (11, 11), (12, 12), (13, 35), (14, 14), (15, 15), (16, 16), (17, 17), (18, 18), (19, 33), (20, 19), (21, 20), (22, 21), (23, 22), (24, 23), (25, 24), (26, 25), (27, 26), (28, 27), (29, 28), (30, 29)] [(ch 1000), (ch 1003)] = some Zw.p2 := by kernel_rfl
noncomputable def Zw.t169 : List SE := ncL [Zw.sl 1001 200,
  Zw.sl 1001 100,
  ⟨.len, (ch 1000), (.int .i64 0), (ch 1002)⟩,
  ⟨.bin .lss, (ch 1001), (ch 1002), (.bool true)⟩,
  ⟨.idx 1, (ch 1000), (ch 1001), (.pointer (some ⟨8, 0, none⟩))⟩,
  ⟨.bin .add, (ch 1001), (.int .i64 1), (ch 1003)⟩]
theorem Zw.i169 : Zw.d44.sub 8 [[(.bool true)]] (idl 8 Zw.d44.objs) (idA 2) (Zw.d44.st 8 []) = true := by kernel_rfl
theorem Zw.r169 : leafNext (fK (Tryz.Es Tryz.m3 (syOf Zw.t169)) 100000 100000 Zw.p2 (Zw.d44.st 8 [[(.bool true)]]) 1) 8 Zw.d44 [(10, 10), (11, 11), (12, 12), (13, 13), (14, 14), (15, 15), (16, 16), (17, 17), (18, 18), (19, 19), (20, 20), (21, 21), (22, 22), (23, 23), (24, 24)] [(ch 1000), (ch 1003)] = some Zw.p2 := by kernel_rfl
noncomputable def Zw.t172 : List SE := ncL [Zw.sl 1001 200,
  ⟨.bin .lss, (ch 1001), (.int .i64 100), (.bool false)⟩,
  ⟨.bin .add, (ch 1001), (.int .i64 1), (ch 1002)⟩]
theorem Zw.i172 : Zw.d44.sub 8 [] (idl 8 Zw.d44.objs) (idA 2) (Zw.d44.st 8 []) = true := by kernel_rfl
theorem Zw.r172 : leafNext (fK (Tryz.Es Tryz.m3 (syOf Zw.t172)) 100000 100000 Zw.p2 (Zw.d44.st 8 []) 1) 8 Zw.d51 [(10, 10), (11, 11), (12, 12), (13, 30), (14, 14), (15, 15), (16, 16), (17, 17), (18, 18), (19, 19), (20, 28), (21, 20), (22, 21), (23, 22), (24, 23), (25, 24)] [(ch 1000), (ch 1002)] = some Zw.p2 := by kernel_rfl
noncomputable def Zw.t175 : List SE := ncL [Zw.sl 1001 200,
  Zw.sl 1001 100,
  ⟨.len, (ch 1000), (.int .i64 0), (ch 1002)⟩,
  ⟨.bin .lss, (ch 1001), (ch 1002), (.bool false)⟩,
  ⟨.bin .add, (ch 1001), (.int .i64 1), (ch 1003)⟩]
theorem Zw.i175 : Zw.d45.sub 8 [] (idl 8 Zw.d45.objs) (idA 2) (Zw.d45.st 8 []) = true := by kernel_rfl
theorem Zw.r175 : leafNext (fK (Tryz.Es Tryz.m3 (syOf Zw.t175)) 100000 100000 Zw.p2 (Zw.d45.st 8 []) 1) 8 Zw.d52 [(10, 10), (11, 11), (12, 12), (13, 31), (14, 14), (15, 15), (16, 16), (17, 17), (18, 18), (19, 19), (20, 29), (21, 20), (22, 21), (23, 22), (24, 23), (25, 24), (26, 25)] [(ch 1000), (ch 1003)] = some Zw.p2 := by kernel_rfl
noncomputable def Zw.t178 : List SE := ncL [Zw.sl 1001 200,
  Zw.sl 1001 100,
  ⟨.len, (ch 1000), (.int .i64 0), (ch 1002)⟩,
  ⟨.bin .lss, (ch 1001), (ch 1002), (.bool true)⟩,
  ⟨.idx 1, (ch 1000), (ch 1001), (.pointer (some ⟨8, 0, none⟩))⟩,
  ⟨.bin .add, (ch 1001), (.int .i64 1), (ch 1003)⟩]
theorem Zw.i178 : Zw.d46.sub 8 [[(.bool false)]] (idl 8 Zw.d46.objs) (idA 2) (Zw.d46.st 8 []) = true := by kernel_rfl
theorem Zw.r178 : leafNext (fK (Tryz.Es Tryz.m3 (syOf Zw.t178)) 100000 100000 Zw.p2 (Zw.d46.st 8 [[(.bool false)]]) 1) 8 Zw.d53 [(10, 10), (11, 11), (12, 12), (13, 32), (14, 14), (15, 15), (16, 16), (17, 17), (18, 18), (19, 19), (20, 30), (21, 20), (22, 21), (23, 22), (24, 23), (25, 24), (26, 25), (27, 26)] [(ch 1000), (ch 1003)] = some Zw.p2 := by kernel_rfl
noncomputable def Zw.t181 : List SE := ncL [Zw.sl 1001 200,
  Zw.sl 1001 100,
  ⟨.len, (ch 1000), (.int .i64 0), (ch 1002)⟩,
  ⟨.bin .lss, (ch 1001), (ch 1002), (.bool true)⟩,
  ⟨.idx 1, (ch 1000), (ch 1001), (.pointer (some ⟨8, 0, none⟩))⟩,
  ⟨.bin .add, (ch 1001), (.int .i64 1), (ch 1003)⟩]
theorem Zw.i181 : Zw.d47.sub 8 [[(.bool true)]] (idl 8 Zw.d47.objs) (idA 2) (Zw.d47.st 8 []) = true := by kernel_rfl
theorem Zw.r181 : leafNext (fK (Tryz.Es Tryz.m3 (syOf Zw.t181)) 100000 100000 Zw.p2 (Zw.d47.st 8 [[(.bool true)]]) 1) 8 Zw.d47 [(10, 10), (11, 11), (12, 12), (13, 13), (14, 14), (15, 15), (16, 16), (17, 17), (18, 18), (19, 19), (20, 20), (21, 21), (22, 22), (23, 23), (24, 24), (25, 25), (26, 26), (27, 27)] [(ch 1000), (ch 1003)] = some Zw.p2 := by kernel_rfl
noncomputable def Zw.t184 : List SE := ncL [Zw.sl 1001 200,
  ⟨.bin .lss, (ch 1001), (.int .i64 100), (.bool false)⟩,
  ⟨.bin .add, (ch 1001), (.int .i64 1), (ch 1002)⟩]
theorem Zw.i184 : Zw.d47.sub 8 [] (idl 8 Zw.d47.objs) (idA 2) (Zw.d47.st 8 []) = true := by kernel_rfl
theorem Zw.r184 : leafNext (fK (Tryz.Es Tryz.m3 (syOf Zw.t184)) 100000 100000 Zw.p2 (Zw.d47.st 8 []) 1) 8 Zw.d54 [(10, 10), (11, 11), (12, 12), (13, 33), (14, 14), (15, 15), (16, 16), (17, 17), (18, 18), (19, 19), (20, 31), (21, 20), (22, 21), (23, 22), (24, 23), (25, 24), (26, 25), (27, 26), (28, 27)] [(ch 1000), (ch 1002)] = some Zw.p2 := by kernel_rfl
noncomputable def Zw.t187 : List SE := ncL [Zw.sl 1001 200,
  Zw.sl 1001 100,
  ⟨.len, (ch 1000), (.int .i64 0), (ch 1002)⟩,
  ⟨.bin .lss, (ch 1001), (ch 1002), (.bool false)⟩,
  ⟨.bin .add, (ch 1001), (.int .i64 1), (ch 1003)⟩]
theorem Zw.i187 : Zw.d48.sub 8 [] (idl 8 Zw.d48.objs) (idA 2) (Zw.d48.st 8 []) = true := by kernel_rfl
theorem Zw.r187 : leafNext (fK (Tryz.Es Tryz.m3 (syOf Zw.t187)) 100000 100000 Zw.p2 (Zw.d48.st 8 []) 1) 8 Zw.d55 [(10, 10), (11, 11), (12, 12), (13, 34), (14, 14), (15, 15), (16, 16), (17, 17), (18, 18), (19, 19), (20, 32), (21, 20), (22, 21), (23, 22), (24, 23), (25, 24), (26, 25), (27, 26), (28, 27), (29, 28)] [(ch 1000), (ch 1003)] = some Zw.p2 := by kernel_rfl
noncomputable def Zw.t190 : List SE := ncL [Zw.sl 1001 200,
  Zw.sl 1001 100,
  ⟨.len, (ch 1000), (.int .i64 0), (ch 1002)⟩,
  ⟨.bin .lss, (ch 1001), (ch 1002), (.bool true)⟩,
  ⟨.idx 1, (ch 1000), (ch 1001), (.pointer (some ⟨8, 0, none⟩))⟩,
  ⟨.bin .add, (ch 1001), (.int .i64 1), (ch 1003)⟩]
theorem Zw.i190 : Zw.d49.sub 8 [[(.bool false)]] (idl 8 Zw.d49.objs) (idA 2) (Zw.d49.st 8 []) = true := by kernel_rfl
theorem Zw.r190 : leafNext (fK (Tryz.Es Tryz.m3 (syOf Zw.t190)) 100000 100000 Zw.p2 (Zw.d49.st 8 [[(.bool false)]]) 1) 8 Zw.d56 [(10, 10), (11, 11), (12, 12), (13, 35), (14, 14), (15, 15), (16, 16), (17, 17), (18, 18), (19, 19), (20, 33), (21, 20), (22, 21), (23, 22), (24, 23), (25, 24), (26, 25), (27, 26), (28, 27), (29, 28), (30, 29)] [(ch 1000), (ch 1003)] = some Zw.p2 := by kernel_rfl
noncomputable def Zw.t193 : List SE := ncL [Zw.sl 1001 200,
  Zw.sl 1001 100,
  ⟨.len, (ch 1000), (.int .i64 0), (ch 1002)⟩,
  ⟨.bin .lss, (ch 1001), (ch 1002), (.bool true)⟩,
  ⟨.idx 1, (ch 1000), (ch 1001), (.pointer (some ⟨8, 0, none⟩))⟩,
  ⟨.bin .add, (ch 1001), (.int .i64 1), (ch 1003)⟩]
theorem Zw.i193 : Zw.d50.sub 8 [[(.bool true)]] (idl 8 Zw.d50.objs) (idA 2) (Zw.d50.st 8 []) = true := by kernel_rfl
theorem Zw.r193 : leafNext (fK (Tryz.Es Tryz.m3 (syOf Zw.t193)) 100000 100000 Zw.p2 (Zw.d50.st 8 [[(.bool true)]]) 1) 8 Zw.d50 [(10, 10), (11, 11), (12, 12), (13, 13), (14, 14), (15, 15), (16, 16), (17, 17), (18, 18), (19, 19), (20, 20), (21, 21), (22, 22), (23, 23), (24, 24), (25, 25), (26, 26), (27, 27), (28, 28), (29, 29), (30, 30)] [(ch 1000), (ch 1003)] = some Zw.p2 := by kernel_rfl
noncomputable def Zw.t196 : List SE := ncL [Zw.sl 1001 200,
  ⟨.bin .lss, (ch 1001), (.int .i64 100), (.bool false)⟩,
  ⟨.bin .add, (ch 1001), (.int .i64 1), (ch 1002)⟩]
theorem Zw.i196 : Zw.d50.sub 8 [] (idl 8 Zw.d50.objs) (idA 2) (Zw.d50.st 8 []) = true := by kernel_rfl
theorem Zw.r196 : leafNext (fK (Tryz.Es Tryz.m3 (syOf Zw.t196)) 100000 100000 Zw.p2 (Zw.d50.st 8 []) 1) 8 Zw.d57 [(10, 10), (11, 11), (12, 12), (13, 36), (14, 14), (15, 15), (16, 16), (17, 17), (18, 18), (19, 19), (20, 34), (21, 20), (22, 21), (23, 22), (24, 23), (25, 24), (26, 25), (27, 26), (28, 27), (29, 28), (30, 29), (31, 30)] [(ch 1000), (ch 1002)] = some Zw.p2 := by kernel_rfl
noncomputable def Zw.t199 : List SE := ncL [Zw.sl 1001 200,
  Zw.sl 1001 100,
  ⟨.len, (ch 1000), (.int .i64 0), (ch 1002)⟩,
  ⟨.bin .lss, (ch 1001), (ch 1002), (.bool true)⟩,
  ⟨.idx 1, (ch 1000), (ch 1001), (.pointer (some ⟨8, 0, none⟩))⟩,
  ⟨.bin .add, (ch 1001), (.int .i64 1), (ch 1003)⟩]
theorem Zw.i199 : Zw.d52.sub 8 [[(.bool false)]] (idl 8 Zw.d52.objs) (idA 2) (Zw.d52.st 8 []) = true := by kernel_rfl
theorem Zw.r199 : leafNext (fK (Tryz.Es Tryz.m3 (syOf Zw.t199)) 100000 100000 Zw.p2 (Zw.d52.st 8 [[(.bool false)]]) 1) 8 Zw.d58 [(10, 10), (11, 11), (12, 12), (13, 32), (14, 14), (15, 15), (16, 16), (17, 17), (18, 18), (19, 19), (20, 20), (21, 30), (22, 21), (23, 22), (24, 23), (25, 24), (26, 25), (27, 26)] [(ch 1000), (ch 1003)] = some Zw.p2 := by kernel_rfl
noncomputable def Zw.t202 : List SE := ncL [Zw.sl 1001 200,
  Zw.sl 1001 100,
  ⟨.len, (ch 1000), (.int .i64 0), (ch 1002)⟩,
  ⟨.bin .lss, (ch 1001), (ch 1002), (.bool true)⟩,
  ⟨.idx 1, (ch 1000), (ch 1001), (.pointer (some ⟨8, 0, none⟩))⟩,
  ⟨.bin .add, (ch 1001), (.int .i64 1), (ch 1003)⟩]
theorem Zw.i202 : Zw.d53.sub 8 [[(.bool true)]] (idl 8 Zw.d53.objs) (idA 2) (Zw.d53.st 8 []) = true := by kernel_rfl
theorem Zw.r202 : leafNext (fK (Tryz.Es Tryz.m3 (syOf Zw.t202)) 100000 100000 Zw.p2 (Zw.d53.st 8 [[(.bool true)]]) 1) 8 Zw.d53 [(10, 10), (11, 11), (12, 12), (13, 13), (14, 14), (15, 15), (16, 16), (17, 17), (18, 18), (19, 19), (20, 20), (21, 21), (22, 22), (23, 23), (24, 24), (25, 25), (26, 26), (27, 27)] [(ch 1000), (ch 1003)] = some Zw.p2 := by kernel_rfl
noncomputable def Zw.t205 : List SE := ncL [Zw.sl 1001 200,
  ⟨.bin .lss, (ch 1001), (.int .i64 100), (.bool false)⟩,
  ⟨.bin .add, (ch 1001), (.int .i64 1), (ch 1002)⟩]
theorem Zw.i205 : Zw.d53.sub 8 [] (idl 8 Zw.d53.objs) (idA 2) (Zw.d53.st 8 []) = true := by kernel_rfl
theorem Zw.r205 : leafNext (fK (Tryz.Es Tryz.m3 (syOf Zw.t205)) 100000 100000 Zw.p2 (Zw.d53.st 8 []) 1) 8 Zw.d59 [(10, 10), (11, 11), (12, 12), (13, 33), (14, 14), (15, 15), (16, 16), (17, 17), (18, 18), (19, 19), (20, 20), (21, 31), (22, 21), (23, 22), (24, 23), (25, 24), (26, 25), (27, 26), (28, 27)] [(ch 1000), (ch 1002)] = some Zw.p2 := by kernel_rfl
noncomputable def Zw.t208 : List SE := ncL [Zw.sl 1001 200,
  Zw.sl 1001 100,
  ⟨.len, (ch 1000), (.int .i64 0), (ch 1002)⟩,
  ⟨.bin .lss, (ch 1001), (ch 1002), (.bool false)⟩,
  ⟨.bin .add, (ch 1001), (.int .i64 1), (ch 1003)⟩]
theorem Zw.i208 : Zw.d54.sub 8 [] (idl 8 Zw.d54.objs) (idA 2) (Zw.d54.st 8 []) = true := by kernel_rfl
theorem Zw.r208 : leafNext (fK (Tryz.Es Tryz.m3 (syOf Zw.t208)) 100000 100000 Zw.p2 (Zw.d54.st 8 []) 1) 8 Zw.d60 [(10, 10), (11, 11), (12, 12), (13, 34), (14, 14), (15, 15), (16, 16), (17, 17), (18, 18), (19, 19), (20, 20), (21, 32), (22, 21), (23, 22), (24, 23), (25, 24), (26, 25), (27, 26), (28, 27), (29, 28)] [(ch 1000), (ch 1003)] = some Zw.p2 := by kernel_rfl
noncomputable def Zw.t211 : List SE := ncL [Zw.sl 1001 200,
  Zw.sl 1001 100,
  ⟨.len, (ch 1000), (.int .i64 0), (ch 1002)⟩,
  ⟨.bin .lss, (ch 1001), (ch 1002), (.bool true)⟩,
  ⟨.idx 1, (ch 1000), (ch 1001), (.pointer (some ⟨8, 0, none⟩))⟩,
  ⟨.bin .add, (ch 1001), (.int .i64 1), (ch 1003)⟩]
theorem Zw.i211 : Zw.d55.sub 8 [[(.bool false)]] (idl 8 Zw.d55.objs) (idA 2) (Zw.d55.st 8 []) = true := by kernel_rfl
theorem Zw.r211 : leafNext (fK (Tryz.Es Tryz.m3 (syOf Zw.t211)) 100000 100000 Zw.p2 (Zw.d55.st 8 [[(.bool false)]]) 1) 8 Zw.d61 [(10, 10), (11, 11), (12, 12), (13, 35), (14, 14), (15, 15), (16, 16), (17, 17), (18, 18), (19, 19), (20, 20), (21, 33), (22, 21), (23, 22), (24, 23), (25, 24), (26, 25), (27, 26), (28, 27), (29, 28), (30, 29)] [(ch 1000), (ch 1003)] = some Zw.p2 := by kernel_rfl
noncomputable def Zw.t214 : List SE := ncL [Zw.sl 1001 200,
  Zw.sl 1001 100,
  ⟨.len, (ch 1000), (.int .i64 0), (ch 1002)⟩,
  ⟨.bin .lss, (ch 1001), (ch 1002), (.bool true)⟩,
  ⟨.idx 1, (ch 1000), (ch 1001), (.pointer (some ⟨8, 0, none⟩))⟩,
  ⟨.bin .add, (ch 1001), (.int .i64 1), (ch 1003)⟩]
theorem Zw.i214 : Zw.d56.sub 8 [[(.bool true)]] (idl 8 Zw.d56.objs) (idA 2) (Zw.d56.st 8 []) = true := by kernel_rfl
theorem Zw.r214 : leafNext (fK (Tryz.Es Tryz.m3 (syOf Zw.t214)) 100000 100000 Zw.p2 (Zw.d56.st 8 [[(.bool true)]]) 1) 8 Zw.d56 [(10, 10), (11, 11), (12, 12), (13, 13), (14, 14), (15, 15), (16, 16), (17, 17), (18, 18), (19, 19), (20, 20), (21, 21), (22, 22), (23, 23), (24, 24), (25, 25), (26, 26), (27, 27), (28, 28), (29, 29), (30, 30)] [(ch 1000), (ch 1003)] = some Zw.p2 := by kernel_rfl
noncomputable def Zw.t217 : List SE := ncL [Zw.sl 1001 200,
  ⟨.bin .lss, (ch 1001), (.int .i64 100), (.bool false)⟩,
  ⟨.bin .add, (ch 1001), (.int .i64 1), (ch 1002)⟩]
theorem Zw.i217 : Zw.d56.sub 8 [] (idl 8 Zw.d56.objs) (idA 2) (Zw.d56.st 8 []) = true := by kernel_rfl
theorem Zw.r217 : leafNext (fK (Tryz.Es Tryz.m3 (syOf Zw.t217)) 100000 100000 Zw.p2 (Zw.d56.st 8 []) 1) 8 Zw.d62 [(10, 10), (11, 11), (12, 12), (13, 36), (14, 14), (15, 15), (16, 16), (17, 17), (18, 18), (19, 19), (20, 20), (21, 34), (22, 21), (23, 22), (24, 23), (25, 24), (26, 25), (27, 26), (28, 27), (29, 28), (30, 29), (31, 30)] [(ch 1000), (ch 1002)] = some Zw.p2 := by kernel_rfl
noncomputable def Zw.t220 : List SE := ncL [Zw.sl 1001 200,
  Zw.sl 1001 100,
  ⟨.len, (ch 1000), (.int .i64 0), (ch 1002)⟩,
  ⟨.bin .lss, (ch 1001), (ch 1002), (.bool false)⟩,
  ⟨.bin .add, (ch 1001), (.int .i64 1), (ch 1003)⟩]
theorem Zw.i220 : Zw.d57.sub 8 [] (idl 8 Zw.d57.objs) (idA 2) (Zw.d57.st 8 []) = true := by kernel_rfl
theorem Zw.r220 : leafNext (fK (Tryz.Es Tryz.m3 (syOf Zw.t220)) 100000 100000 Zw.p2 (Zw.d57.st 8 []) 1) 8 Zw.d63 [(10, 10), (11, 11), (12, 12), (13, 37), (14, 14), (15, 15), (16, 16), (17, 17), (18, 18), (19, 19), (20, 20), (21, 35), (22, 21), (23, 22), (24, 23), (25, 24), (26, 25), (27, 26), (28, 27), (29, 28), (30, 29), (31, 30), (32, 31)] [(ch 1000), (ch 1003)] = some Zw.p2 := by kernel_rfl
noncomputable def Zw.t223 : List SE := ncL [Zw.sl 1001 200,
  Zw.sl 1001 100,
  ⟨.len, (ch 1000), (.int .i64 0), (ch 1002)⟩,
  ⟨.bin .lss, (ch 1001), (ch 1002), (.bool true)⟩,
  ⟨.idx 1, (ch 1000), (ch 1001), (.pointer (some ⟨8, 0, none⟩))⟩,
  ⟨.bin .add, (ch 1001), (.int .i64 1), (ch 1003)⟩]
theorem Zw.i223 : Zw.d59.sub 8 [[(.bool true)]] (idl 8 Zw.d59.objs) (idA 2) (Zw.d59.st 8 []) = true := by kernel_rfl
theorem Zw.r223 : leafNext (fK (Tryz.Es Tryz.m3 (syOf Zw.t223)) 100000 100000 Zw.p2 (Zw.d59.st 8 [[(.bool true)]]) 1) 8 Zw.d59 [(10, 10), (11, 11), (12, 12), (13, 13), (14, 14), (15, 15), (16, 16), (17, 17), (18, 18), (19, 19), (20, 20), (21, 21), (22, 22), (23, 23), (24, 24), (25, 25), (26, 26), (27, 27), (28, 28)] [(ch 1000), (ch 1003)] = some Zw.p2 := by kernel_rfl
noncomputable def Zw.t226 : List SE := ncL [Zw.sl 1001 200,
  ⟨.bin .lss, (ch 1001), (.int .i64 100), (.bool false)⟩,
  ⟨.bin .add, (ch 1001), (.int .i64 1), (ch 1002)⟩]
theorem Zw.i226 : Zw.d59.sub 8 [] (idl 8 Zw.d59.objs) (idA 2) (Zw.d59.st 8 []) = true := by kernel_rfl
theorem Zw.r226 : leafNext (fK (Tryz.Es Tryz.m3 (syOf Zw.t226)) 100000 100000 Zw.p2 (Zw.d59.st 8 []) 1) 8 Zw.d64 [(10, 10), (11, 11), (12, 12), (13, 34), (14, 14), (15, 15), (16, 16), (17, 17), (18, 18), (19, 19), (20, 20), (21, 21), (22, 32), (23, 22), (24, 23), (25, 24), (26, 25), (27, 26), (28, 27), (29, 28)] [(ch 1000), (ch 1002)] = some Zw.p2 := by kernel_rfl
noncomputable def Zw.t229 : List SE := ncL [Zw.sl 1001 200,
  Zw.sl 1001 100,
  ⟨.len, (ch 1000), (.int .i64 0), (ch 1002)⟩,
  ⟨.bin .lss, (ch 1001), (ch 1002), (.bool false)⟩,
  ⟨.bin .add, (ch 1001), (.int .i64 1), (ch 1003)⟩]
theorem Zw.i229 : Zw.d60.sub 8 [] (idl 8 Zw.d60.objs) (idA 2) (Zw.d60.st 8 []) = true := by kernel_rfl
theorem Zw.r229 : leafNext (fK (Tryz.Es Tryz.m3 (syOf Zw.t229)) 100000 100000 Zw.p2 (Zw.d60.st 8 []) 1) 8 Zw.d65 [(10, 10), (11, 11), (12, 12), (13, 35), (14, 14), (15, 15), (16, 16), (17, 17), (18, 18), (19, 19), (20, 20), (21, 21), (22, 33), (23, 22), (24, 23), (25, 24), (26, 25), (27, 26), (28, 27), (29, 28), (30, 29)] [(ch 1000), (ch 1003)] = some Zw.p2 := by kernel_rfl
noncomputable def Zw.t232 : List SE := ncL [Zw.sl 1001 200,
  Zw.sl 1001 100,
  ⟨.len, (ch 1000), (.int .i64 0), (ch 1002)⟩,
  ⟨.bin .lss, (ch 1001), (ch 1002), (.bool true)⟩,
  ⟨.idx 1, (ch 1000), (ch 1001), (.pointer (some ⟨8, 0, none⟩))⟩,
  ⟨.bin .add, (ch 1001), (.int .i64 1), (ch 1003)⟩]
theorem Zw.i232 : Zw.d61.sub 8 [[(.bool false)]] (idl 8 Zw.d61.objs) (idA 2) (Zw.d61.st 8 []) = true := by kernel_rfl
theorem Zw.r232 : leafNext (fK (Tryz.Es Tryz.m3 (syOf Zw.t232)) 100000 100000 Zw.p2 (Zw.d61.st 8 [[(.bool false)]]) 1) 8 Zw.d66 [(10, 10), (11, 11), (12, 12), (13, 36), (14, 14), (15, 15), (16, 16), (17, 17), (18, 18), (19, 19), (20, 20), (21, 21), (22, 34), (23, 22), (24, 23), (25, 24), (26, 25), (27, 26), (28, 27), (29, 28), (30, 29), (31, 30)] [(ch 1000), (ch 1003)] = some Zw.p2 := by kernel_rfl
noncomputable def Zw.t235 : List SE := ncL [Zw.sl 1001 200,
  Zw.sl 1001 100,
  ⟨.len, (ch 1000), (.int .i64 0), (ch 1002)⟩,
  ⟨.bin .lss, (ch 1001), (ch 1002), (.bool true)⟩,
  ⟨.idx 1, (ch 1000), (ch 1001), (.pointer (some ⟨8, 0, none⟩))⟩,
  ⟨.bin .add, (ch 1001), (.int .i64 1), (ch 1003)⟩]
theorem Zw.i235 : Zw.d62.sub 8 [[(.bool true)]] (idl 8 Zw.d62.objs) (idA 2) (Zw.d62.st 8 []) = true := by kernel_rfl
theorem Zw.r235 : leafNext (fK (Tryz.Es Tryz.m3 (syOf Zw.t235)) 100000 100000 Zw.p2 (Zw.d62.st 8 [[(.bool true)]]) 1) 8 Zw.d62 [(10, 10), (11, 11), (12, 12), (13, 13), (14, 14), (15, 15), (16, 16), (17, 17), (18, 18), (19, 19), (20, 20), (21, 21), (22, 22), (23, 23), (24, 24), (25, 25), (26, 26), (27, 27), (28, 28), (29, 29), (30, 30), (31, 31)] [(ch 1000), (ch 1003)] = some Zw.p2 := by kernel_rfl
noncomputable def Zw.t238 : List SE := ncL [Zw.sl 1001 200,
  ⟨.bin .lss, (ch 1001), (.int .i64 100), (.bool false)⟩,
  ⟨.bin .add, (ch 1001), (.int .i64 1), (ch 1002)⟩]
theorem Zw.i238 : Zw.d62.sub 8 [] (idl 8 Zw.d62.objs) (idA 2) (Zw.d62.st 8 []) = true := by kernel_rfl
theorem Zw.r238 : leafNext (fK (Tryz.Es Tryz.m3 (syOf Zw.t238)) 100000 100000 Zw.p2 (Zw.d62.st 8 []) 1) 8 Zw.d67 [(10, 10), (11, 11), (12, 12), (13, 37), (14, 14), (15, 15), (16, 16), (17, 17), (18, 18), (19, 19), (20, 20), (21, 21), (22, 35), (23, 22), (24, 23), (25, 24), (26, 25), (27, 26), (28, 27), (29, 28), (30, 29), (31, 30), (32, 31)] [(ch 1000), (ch 1002)] = some Zw.p2 := by kernel_rfl
noncomputable def Zw.t241 : List SE := ncL [Zw.sl 1001 200,
  Zw.sl 1001 100,
  ⟨.len, (ch 1000), (.int .i64 0), (ch 1002)⟩,
  ⟨.bin .lss, (ch 1001), (ch 1002), (.bool false)⟩,
  ⟨.bin .add, (ch 1001), (.int .i64 1), (ch 1003)⟩]
theorem Zw.i241 : Zw.d63.sub 8 [] (idl 8 Zw.d63.objs) (idA 2) (Zw.d63.st 8 []) = true := by kernel_rfl
theorem Zw.r241 : leafNext (fK (Tryz.Es Tryz.m3 (syOf Zw.t241)) 100000 100000 Zw.p2 (Zw.d63.st 8 []) 1) 8 Zw.d68 [(10, 10), (11, 11), (12, 12), (13, 38), (14, 14), (15, 15), (16, 16), (17, 17), (18, 18), (19, 19), (20, 20), (21, 21), (22, 36), (23, 22), (24, 23), (25, 24), (26, 25), (27, 26), (28, 27), (29, 28), (30, 29), (31, 30), (32, 31), (33, 32)] [(ch 1000), (ch 1003)] = some Zw.p2 := by kernel_rfl
noncomputable def Zw.t244 : List SE := ncL [Zw.sl 1001 200,
  Zw.sl 1001 100,
  ⟨.len, (ch 1000), (.int .i64 0), (ch 1002)⟩,
  ⟨.bin .lss, (ch 1001), (ch 1002), (.bool true)⟩,
  ⟨.idx 1, (ch 1000), (ch 1001), (.pointer (some ⟨8, 0, none⟩))⟩,
  ⟨.bin .add, (ch 1001), (.int .i64 1), (ch 1003)⟩]
theorem Zw.i244 : Zw.d65.sub 8 [[(.bool true)]] (idl 8 Zw.d65.objs) (idA 2) (Zw.d65.st 8 []) = true := by kernel_rfl
theorem Zw.r244 : leafNext (fK (Tryz.Es Tryz.m3 (syOf Zw.t244)) 100000 100000 Zw.p2 (Zw.d65.st 8 [[(.bool true)]]) 1) 8 Zw.d65 [(10, 10), (11, 11), (12, 12), (13, 13), (14, 14), (15, 15), (16, 16), (17, 17), (18, 18), (19, 19), (20, 20), (21, 21), (22, 22), (23, 23), (24, 24), (25, 25), (26, 26), (27, 27), (28, 28), (29, 29), (30, 30)] [(ch 1000), (ch 1003)] = some Zw.p2 := by kernel_rfl
noncomputable def Zw.t247 : List SE := ncL [Zw.sl 1001 200,
  ⟨.bin .lss, (ch 1001), (.int .i64 100), (.bool false)⟩,
  ⟨.bin .add, (ch 1001), (.int .i64 1), (ch 1002)⟩]
theorem Zw.i247 : Zw.d65.sub 8 [] (idl 8 Zw.d65.objs) (idA 2) (Zw.d65.st 8 []) = true := by kernel_rfl
theorem Zw.r247 : leafNext (fK (Tryz.Es Tryz.m3 (syOf Zw.t247)) 100000 100000 Zw.p2 (Zw.d65.st 8 []) 1) 8 Zw.d69 [(10, 10), (11, 11), (12, 12), (13, 37), (14, 14), (15, 15), (16, 16), (17, 17), (18, 18), (19, 19), (20, 20), (21, 21), (22, 22), (23, 35), (24, 23), (25, 24), (26, 25), (27, 26), (28, 27), (29, 28), (30, 29), (31, 30)] [(ch 1000), (ch 1002)] = some Zw.p2 := by kernel_rfl
noncomputable def Zw.t250 : List SE := ncL [Zw.sl 1001 200,
  Zw.sl 1001 100,
  ⟨.len, (ch 1000), (.int .i64 0), (ch 1002)⟩,
  ⟨.bin .lss, (ch 1001), (ch 1002), (.bool false)⟩,
  ⟨.bin .add, (ch 1001), (.int .i64 1), (ch 1003)⟩]
theorem Zw.i250 : Zw.d66.sub 8 [] (idl 8 Zw.d66.objs) (idA 2) (Zw.d66.st 8 []) = true := by kernel_rfl
theorem Zw.r250 : leafNext (fK (Tryz.Es Tryz.m3 (syOf Zw.t250)) 100000 100000 Zw.p2 (Zw.d66.st 8 []) 1) 8 Zw.d70 [(10, 10), (11, 11), (12, 12), (13, 38), (14, 14), (15, 15), (16, 16), (17, 17), (18, 18), (19, 19), (20, 20), (21, 21), (22, 22), (23, 36), (24, 23), (25, 24), (26, 25), (27, 26), (28, 27), (29, 28), (30, 29), (31, 30), (32, 31)] [(ch 1000), (ch 1003)] = some Zw.p2 := by kernel_rfl
noncomputable def Zw.t253 : List SE := ncL [Zw.sl 1001 200,
  Zw.sl 1001 100,
  ⟨.len, (ch 1000), (.int .i64 0), (ch 1002)⟩,
  ⟨.bin .lss, (ch 1001), (ch 1002), (.bool true)⟩,
  ⟨.idx 1, (ch 1000), (ch 1001), (.pointer (some ⟨8, 0, none⟩))⟩,
  ⟨.bin .add, (ch 1001), (.int .i64 1), (ch 1003)⟩]
theorem Zw.i253 : Zw.d67.sub 8 [[(.bool false)]] (idl 8 Zw.d67.objs) (idA 2) (Zw.d67.st 8 []) = true := by kernel_rfl
theorem Zw.r253 : leafNext (fK (Tryz.Es Tryz.m3 (syOf Zw.t253)) 100000 100000 Zw.p2 (Zw.d67.st 8 [[(.bool false)]]) 1) 8 Zw.d71 [(10, 10), (11, 11), (12, 12), (13, 39), (14, 14), (15, 15), (16, 16), (17, 17), (18, 18), (19, 19), (20, 20), (21, 21), (22, 22), (23, 37), (24, 23), (25, 24), (26, 25), (27, 26), (28, 27), (29, 28), (30, 29), (31, 30), (32, 31), (33, 32)] [(ch 1000), (ch 1003)] = some Zw.p2 := by kernel_rfl
noncomputable def Zw.t256 : List SE := ncL [Zw.sl 1001 200,
  Zw.sl 1001 100,
  ⟨.len, (ch 1000), (.int .i64 0), (ch 1002)⟩,
  ⟨.bin .lss, (ch 1001), (ch 1002), (.bool true)⟩,
  ⟨.idx 1, (ch 1000), (ch 1001), (.pointer (some ⟨8, 0, none⟩))⟩,
  ⟨.bin .add, (ch 1001), (.int .i64 1), (ch 1003)⟩]
theorem Zw.i256 : Zw.d68.sub 8 [[(.bool true)]] (idl 8 Zw.d68.objs) (idA 2) (Zw.d68.st 8 []) = true := by kernel_rfl
theorem Zw.r256 : leafNext (fK (Tryz.Es Tryz.m3 (syOf Zw.t256)) 100000 100000 Zw.p2 (Zw.d68.st 8 [[(.bool true)]]) 1) 8 Zw.d68 [(10, 10), (11, 11), (12, 12), (13, 13), (14, 14), (15, 15), (16, 16), (17, 17), (18, 18), (19, 19), (20, 20), (21, 21), (22, 22), (23, 23), (24, 24), (25, 25), (26, 26), (27, 27), (28, 28), (29, 29), (30, 30), (31, 31), (32, 32), (33, 33)] [(ch 1000), (ch 1003)] = some Zw.p2 := by kernel_rfl
noncomputable def Zw.t259 : List SE := ncL [Zw.sl 1001 200,
  ⟨.bin .lss, (ch 1001), (.int .i64 100), (.bool false)⟩,
  ⟨.bin .add, (ch 1001), (.int .i64 1), (ch 1002)⟩]
theorem Zw.i259 : Zw.d68.sub 8 [] (idl 8 Zw.d68.objs) (idA 2) (Zw.d68.st 8 []) = true := by kernel_rfl
theorem Zw.r259 : leafNext (fK (Tryz.Es Tryz.m3 (syOf Zw.t259)) 100000 100000 Zw.p2 (Zw.d68.st 8 []) 1) 8 Zw.d72 [(10, 10), (11, 11), (12, 12), (13, 40), (14, 14), (15, 15), (16, 16), (17, 17), (18, 18), (19, 19), (20, 20), (21, 21), (22, 22), (23, 38), (24, 23), (25, 24), (26, 25), (27, 26), (28, 27), (29, 28), (30, 29), (31, 30), (32, 31), (33, 32), (34, 33)] [(ch 1000), (ch 1002)] = some Zw.p2 := by kernel_rfl
noncomputable def Zw.t262 : List SE := ncL [Zw.sl 1001 200,
  Zw.sl 1001 100,
  ⟨.len, (ch 1000), (.int .i64 0), (ch 1002)⟩,
  ⟨.bin .lss, (ch 1001), (ch 1002), (.bool true)⟩,
  ⟨.idx 1, (ch 1000), (ch 1001), (.pointer (some ⟨8, 0, none⟩))⟩,
  ⟨.bin .add, (ch 1001), (.int .i64 1), (ch 1003)⟩]
theorem Zw.i262 : Zw.d70.sub 8 [[(.bool false)]] (idl 8 Zw.d70.objs) (idA 2) (Zw.d70.st 8 []) = true := by kernel_rfl
theorem Zw.r262 : leafNext (fK (Tryz.Es Tryz.m3 (syOf Zw.t262)) 100000 100000 Zw.p2 (Zw.d70.st 8 [[(.bool false)]]) 1) 8 Zw.d73 [(10, 10), (11, 11), (12, 12), (13, 39), (14, 14), (15, 15), (16, 16), (17, 17), (18, 18), (19, 19), (20, 20), (21, 21), (22, 22), (23, 23), (24, 37), (25, 24), (26, 25), (27, 26), (28, 27), (29, 28), (30, 29), (31, 30), (32, 31), (33, 32)] [(ch 1000), (ch 1003)] = some Zw.p2 := by kernel_rfl
noncomputable def Zw.t265 : List SE := ncL [Zw.sl 1001 200,
  Zw.sl 1001 100,
  ⟨.len, (ch 1000), (.int .i64 0), (ch 1002)⟩,
  ⟨.bin .lss, (ch 1001), (ch 1002), (.bool true)⟩,
  ⟨.idx 1, (ch 1000), (ch 1001), (.pointer (some ⟨8, 0, none⟩))⟩,
  ⟨.bin .add, (ch 1001), (.int .i64 1), (ch 1003)⟩]
theorem Zw.i265 : Zw.d71.sub 8 [[(.bool true)]] (idl 8 Zw.d71.objs) (idA 2) (Zw.d71.st 8 []) = true := by kernel_rfl
theorem Zw.r265 : leafNext (fK (Tryz.Es Tryz.m3 (syOf Zw.t265)) 100000 100000 Zw.p2 (Zw.d71.st 8 [[(.bool true)]]) 1) 8 Zw.d71 [(10, 10), (11, 11), (12, 12), (13, 13), (14, 14), (15, 15), (16, 16), (17, 17), (18, 18), (19, 19), (20, 20), (21, 21), (22, 22), (23, 23), (24, 24), (25, 25), (26, 26), (27, 27), (28, 28), (29, 29), (30, 30), (31, 31), (32, 32), (33, 33)] [(ch 1000), (ch 1003)] = some Zw.p2 := by kernel_rfl
noncomputable def Zw.t268 : List SE := ncL [Zw.sl 1001 200,
  ⟨.bin .lss, (ch 1001), (.int .i64 100), (.bool false)⟩,
  ⟨.bin .add, (ch 1001), (.int .i64 1), (ch 1002)⟩]
theorem Zw.i268 : Zw.d71.sub 8 [] (idl 8 Zw.d71.objs) (idA 2) (Zw.d71.st 8 []) = true := by kernel_rfl
theorem Zw.r268 : leafNext (fK (Tryz.Es Tryz.m3 (syOf Zw.t268)) 100000 100000 Zw.p2 (Zw.d71.st 8 []) 1) 8 Zw.d74 [(10, 10), (11, 11), (12, 12), (13, 40), (14, 14), (15, 15), (16, 16), (17, 17), (18, 18), (19, 19), (20, 20), (21, 21), (22, 22), (23, 23), (24, 38), (25, 24), (26, 25), (27, 26), (28, 27), (29, 28), (30, 29), (31, 30), (32, 31), (33, 32), (34, 33)] [(ch 1000), (ch 1002)] = some Zw.p2 := by kernel_rfl
noncomputable def Zw.t271 : List SE := ncL [Zw.sl 1001 200,
  Zw.sl 1001 100,
  ⟨.len, (ch 1000), (.int .i64 0), (ch 1002)⟩,
  ⟨.bin .lss, (ch 1001), (ch 1002), (.bool false)⟩,
  ⟨.bin .add, (ch 1001), (.int .i64 1), (ch 1003)⟩]
theorem Zw.i271 : Zw.d72.sub 8 [] (idl 8 Zw.d72.objs) (idA 2) (Zw.d72.st 8 []) = true := by kernel_rfl
theorem Zw.r271 : leafNext (fK (Tryz.Es Tryz.m3 (syOf Zw.t271)) 100000 100000 Zw.p2 (Zw.d72.st 8 []) 1) 8 Zw.d75 [(10, 10), (11, 11), (12, 12), (13, 41), (14, 14), (15, 15), (16, 16), (17, 17), (18, 18), (19, 19), (20, 20), (21, 21), (22, 22), (23, 23), (24, 39), (25, 24), (26, 25), (27, 26), (28, 27), (29, 28), (30, 29), (31, 30), (32, 31), (33, 32), (34, 33), (35, 34)] [(ch 1000), (ch 1003)] = some Zw.p2 := by kernel_rfl
noncomputable def Zw.t274 : List SE := ncL [Zw.sl 1001 200,
  Zw.sl 1001 100,
  ⟨.len, (ch 1000), (.int .i64 0), (ch 1002)⟩,
  ⟨.bin .lss, (ch 1001), (ch 1002), (.bool true)⟩,
  ⟨.idx 1, (ch 1000), (ch 1001), (.pointer (some ⟨8, 0, none⟩))⟩,
  ⟨.bin .add, (ch 1001), (.int .i64 1), (ch 1003)⟩]
theorem Zw.i274 : Zw.d74.sub 8 [[(.bool true)]] (idl 8 Zw.d74.objs) (idA 2) (Zw.d74.st 8 []) = true := by kernel_rfl
theorem Zw.r274 : leafNext (fK (Tryz.Es Tryz.m3 (syOf Zw.t274)) 100000 100000 Zw.p2 (Zw.d74.st 8 [[(.bool true)]]) 1) 8 Zw.d74 [(10, 10), (11, 11), (12, 12), (13, 13), (14, 14), (15, 15), (16, 16), (17, 17), (18, 18), (19, 19), (20, 20), (21, 21), (22, 22), (23, 23), (24, 24), (25, 25), (26, 26), (27, 27), (28, 28), (29, 29), (30, 30), (31, 31), (32, 32), (33, 33), (34, 34)] [(ch 1000), (ch 1003)] = some Zw.p2 := by kernel_rfl
noncomputable def Zw.t277 : List SE := ncL [Zw.sl 1001 200,
  ⟨.bin .lss, (ch 1001), (.int .i64 100), (.bool false)⟩,
  ⟨.bin .add, (ch 1001), (.int .i64 1), (ch 1002)⟩]
theorem Zw.i277 : Zw.d74.sub 8 [] (idl 8 Zw.d74.objs) (idA 2) (Zw.d74.st 8 []) = true := by kernel_rfl
theorem Zw.r277 : leafNext (fK (Tryz.Es Tryz.m3 (syOf Zw.t277)) 100000 100000 Zw.p2 (Zw.d74.st 8 []) 1) 8 Zw.d76 [(10, 10), (11, 11), (12, 12), (13, 41), (14, 14), (15, 15), (16, 16), (17, 17), (18, 18), (19, 19), (20, 20), (21, 21), (22, 22), (23, 23), (24, 24), (25, 39), (26, 25), (27, 26), (28, 27), (29, 28), (30, 29), (31, 30), (32, 31), (33, 32), (34, 33), (35, 34)] [(ch 1000), (ch 1002)] = some Zw.p2 := by kernel_rfl
noncomputable def Zw.t280 : List SE := ncL [Zw.sl 1001 200,
  Zw.sl 1001 100,
  ⟨.len, (ch 1000), (.int .i64 0), (ch 1002)⟩,
  ⟨.bin .lss, (ch 1001), (ch 1002), (.bool false)⟩,
  ⟨.bin .add, (ch 1001), (.int .i64 1), (ch 1003)⟩]
theorem Zw.i280 : Zw.d75.sub 8 [] (idl 8 Zw.d75.objs) (idA 2) (Zw.d75.st 8 []) = true := by kernel_rfl
theorem Zw.r280 : leafNext (fK (Tryz.Es Tryz.m3 (syOf Zw.t280)) 100000 100000 Zw.p2 (Zw.d75.st 8 []) 1) 8 Zw.d77 [(10, 10), (11, 11), (12, 12), (13, 42), (14, 14), (15, 15), (16, 16), (17, 17), (18, 18), (19, 19), (20, 20), (21, 21), (22, 22), (23, 23), (24, 24), (25, 40), (26, 25), (27, 26), (28, 27), (29, 28), (30, 29), (31, 30), (32, 31), (33, 32), (34, 33), (35, 34), (36, 35)] [(ch 1000), (ch 1003)] = some Zw.p2 := by kernel_rfl
noncomputable def Zw.t283 : List SE := ncL [Zw.sl 1001 200,
  Zw.sl 1001 100,
  ⟨.len, (ch 1000), (.int .i64 0), (ch 1002)⟩,
  ⟨.bin .lss, (ch 1001), (ch 1002), (.bool true)⟩,
  ⟨.idx 1, (ch 1000), (ch 1001), (.pointer (some ⟨8, 0, none⟩))⟩,
  ⟨.bin .add, (ch 1001), (.int .i64 1), (ch 1003)⟩]
theorem Zw.i283 : Zw.d77.sub 8 [[(.bool true)]] (idl 8 Zw.d77.objs) (idA 2) (Zw.d77.st 8 []) = true := by kernel_rfl
theorem Zw.r283 : leafNext (fK (Tryz.Es Tryz.m3 (syOf Zw.t283)) 100000 100000 Zw.p2 (Zw.d77.st 8 [[(.bool true)]]) 1) 8 Zw.d77 [(10, 10), (11, 11), (12, 12), (13, 13), (14, 14), (15, 15), (16, 16), (17, 17), (18, 18), (19, 19), (20, 20), (21, 21), (22, 22), (23, 23), (24, 24), (25, 25), (26, 26), (27, 27), (28, 28), (29, 29), (30, 30), (31, 31), (32, 32), (33, 33), (34, 34), (35, 35), (36, 36)] [(ch 1000), (ch 1003)] = some Zw.p2 := by kernel_rfl
noncomputable def Zw.t286 : List SE := ncL [Zw.sl 1001 200,
  ⟨.bin .lss, (ch 1001), (.int .i64 100), (.bool false)⟩,
  ⟨.bin .add, (ch 1001), (.int .i64 1), (ch 1002)⟩]
theorem Zw.i286 : Zw.d77.sub 8 [] (idl 8 Zw.d77.objs) (idA 2) (Zw.d77.st 8 []) = true := by kernel_rfl
theorem Zw.r286 : leafNext (fK (Tryz.Es Tryz.m3 (syOf Zw.t286)) 100000 100000 Zw.p2 (Zw.d77.st 8 []) 1) 8 Zw.d78 [(10, 10), (11, 11), (12, 12), (13, 43), (14, 14), (15, 15), (16, 16), (17, 17), (18, 18), (19, 19), (20, 20), (21, 21), (22, 22), (23, 23), (24, 24), (25, 25), (26, 41), (27, 26), (28, 27), (29, 28), (30, 29), (31, 30), (32, 31), (33, 32), (34, 33), (35, 34), (36, 35), (37, 36)] [(ch 1000), (ch 1002)] = some Zw.p2 := by kernel_rfl
end
end Go.Proofs
