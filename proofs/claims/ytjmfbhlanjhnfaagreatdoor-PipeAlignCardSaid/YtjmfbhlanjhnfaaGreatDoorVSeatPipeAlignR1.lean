/- Pieces of the law's run, from node to node, answered by the executor. No conditions. -/
import Derived.Test.YtjmfbhlanjhnfaaGreatDoorVSeatPipeAlignNd
set_option linter.all false
namespace Go.Proofs
open Go Go.Vsx
set_option maxRecDepth 1000000
noncomputable section
noncomputable def Zw.t0 : List SE := ncL [⟨.bin .rem, (ch 1000), (.int .i64 3), (ch 1002)⟩,
  ⟨.bin .add, (ch 1002), (.int .i64 3), (ch 1003)⟩,
  ⟨.bin .rem, (ch 1003), (.int .i64 3), (.int .i64 0)⟩]
theorem Zw.i0 : Zw.d0.sub 8 [] (idl 8 Zw.d0.objs) (idA 2) (Zw.d0.st 8 []) = true := by kernel_rfl
theorem Zw.r0 : leafNext (fK (Tryz.Es Tryz.m4 (syOf Zw.t0)) 100000 100000 Zw.pS (Zw.d0.st 8 []) 0) 8 Zw.d1 [(10, 11), (11, 10)] [(ch 1001)] = some Zw.p0 := by kernel_rfl
noncomputable def Zw.t4 : List SE := ncL [⟨.len, (ch 1000), (.int .i64 0), (ch 1002)⟩,
  ⟨.bin .lss, (.int .i64 0), (ch 1002), (.bool true)⟩,
  ⟨.idx 1, (ch 1000), (.int .i64 0), (.pointer (some ⟨8, 0, none⟩))⟩,
  ⟨.bin .rem, (ch 1001), (.int .i64 5), (ch 1003)⟩,
  ⟨.bin .add, (ch 1003), (.int .i64 5), (ch 1004)⟩,
  ⟨.bin .rem, (ch 1004), (.int .i64 5), (.int .i64 1)⟩]
theorem Zw.i4 : Zw.d1.sub 8 [[(ch 1001)]] (idl 8 Zw.d1.objs) (idA 1) (Zw.d1.st 8 []) = true := by kernel_rfl
theorem Zw.r4 : leafNext (fK (Tryz.Es Tryz.m4 (syOf Zw.t4)) 100000 100000 Zw.p0 (Zw.d1.st 8 [[(ch 1001)]]) 3) 8 Zw.d5 [(10, 10), (11, 11), (12, 22)] [(ch 1000)] = some Zw.p0 := by kernel_rfl
noncomputable def Zw.t8 : List SE := ncL [⟨.len, (ch 1000), (.int .i64 0), (ch 1001)⟩,
  ⟨.bin .lss, (.int .i64 0), (ch 1001), (.bool false)⟩]
theorem Zw.i8 : Zw.d1.sub 8 [] (idl 8 Zw.d1.objs) (idA 1) (Zw.d1.st 8 []) = true := by kernel_rfl
theorem Zw.r8 : leafNext (fK (Tryz.Es Tryz.m4 (syOf Zw.t8)) 100000 100000 Zw.p0 (Zw.d1.st 8 []) 2) 8 Zw.d4 [(10, 10), (11, 11), (12, 18)] [(ch 1000)] = some Zw.p0 := by kernel_rfl
noncomputable def Zw.t12 : List SE := ncL [⟨.len, (ch 1000), (.int .i64 0), (ch 1002)⟩,
  ⟨.bin .lss, (.int .i64 0), (ch 1002), (.bool true)⟩,
  ⟨.idx 1, (ch 1000), (.int .i64 0), (.pointer (some ⟨8, 0, none⟩))⟩,
  ⟨.bin .rem, (ch 1001), (.int .i64 5), (ch 1003)⟩,
  ⟨.bin .add, (ch 1003), (.int .i64 5), (ch 1004)⟩,
  ⟨.bin .rem, (ch 1004), (.int .i64 5), (.int .i64 3)⟩]
theorem Zw.i12 : Zw.d2.sub 8 [[(ch 1001)]] (idl 8 Zw.d2.objs) (idA 1) (Zw.d2.st 8 []) = true := by kernel_rfl
theorem Zw.r12 : leafNext (fK (Tryz.Es Tryz.m4 (syOf Zw.t12)) 100000 100000 Zw.p0 (Zw.d2.st 8 [[(ch 1001)]]) 5) 8 Zw.d12 [(10, 10), (11, 11), (12, 33)] [(ch 1000)] = some Zw.p0 := by kernel_rfl
noncomputable def Zw.t16 : List SE := ncL [⟨.len, (ch 1000), (.int .i64 0), (ch 1002)⟩,
  ⟨.bin .lss, (.int .i64 0), (ch 1002), (.bool true)⟩,
  ⟨.idx 1, (ch 1000), (.int .i64 0), (.pointer (some ⟨8, 0, none⟩))⟩,
  ⟨.bin .rem, (ch 1001), (.int .i64 5), (ch 1003)⟩,
  ⟨.bin .add, (ch 1003), (.int .i64 5), (ch 1004)⟩,
  ⟨.bin .rem, (ch 1004), (.int .i64 5), (.int .i64 1)⟩]
theorem Zw.i16 : Zw.d3.sub 8 [[(ch 1001)]] (idl 8 Zw.d3.objs) (idA 1) (Zw.d3.st 8 []) = true := by kernel_rfl
theorem Zw.r16 : leafNext (fK (Tryz.Es Tryz.m4 (syOf Zw.t16)) 100000 100000 Zw.p0 (Zw.d3.st 8 [[(ch 1001)]]) 3) 8 Zw.d15 [(10, 10), (11, 11), (12, 22)] [(ch 1000)] = some Zw.p0 := by kernel_rfl
noncomputable def Zw.t20 : List SE := ncL [⟨.len, (ch 1000), (.int .i64 0), (ch 1001)⟩,
  ⟨.bin .lss, (.int .i64 0), (ch 1001), (.bool false)⟩]
theorem Zw.i20 : Zw.d3.sub 8 [] (idl 8 Zw.d3.objs) (idA 1) (Zw.d3.st 8 []) = true := by kernel_rfl
theorem Zw.r20 : leafNext (fK (Tryz.Es Tryz.m4 (syOf Zw.t20)) 100000 100000 Zw.p0 (Zw.d3.st 8 []) 2) 8 Zw.d14 [(10, 10), (11, 11), (12, 18)] [(ch 1000)] = some Zw.p0 := by kernel_rfl
noncomputable def Zw.t24 : List SE := ncL []
theorem Zw.i24 : Zw.d7.sub 8 [] (idl 8 Zw.d7.objs) (idA 1) (Zw.d7.st 8 []) = true := by kernel_rfl
theorem Zw.r24 : leafFin (Tryz.Es Tryz.m4 (syOf Zw.t24)) Tryz.f6 (fK (Tryz.Es Tryz.m4 (syOf Zw.t24)) 100000 100000 Zw.p0 (Zw.d7.st 8 []) 7) = true := by kernel_rfl
noncomputable def Zw.t28 : List SE := ncL [⟨.len, (ch 1000), (.int .i64 0), (ch 1002)⟩,
  ⟨.bin .lss, (.int .i64 1), (ch 1002), (.bool true)⟩,
  ⟨.idx 1, (ch 1000), (.int .i64 1), (.pointer (some ⟨8, 0, none⟩))⟩,
  ⟨.bin .rem, (ch 1001), (.int .i64 5), (ch 1003)⟩,
  ⟨.bin .add, (ch 1003), (.int .i64 5), (ch 1004)⟩,
  ⟨.bin .rem, (ch 1004), (.int .i64 5), (.int .i64 2)⟩]
theorem Zw.i28 : Zw.d9.sub 8 [[(ch 1001)]] (idl 8 Zw.d9.objs) (idA 1) (Zw.d9.st 8 []) = true := by kernel_rfl
theorem Zw.r28 : leafNext (fK (Tryz.Es Tryz.m4 (syOf Zw.t28)) 100000 100000 Zw.p0 (Zw.d9.st 8 [[(ch 1001)]]) 4) 8 Zw.d21 [(10, 10), (11, 11), (12, 12), (13, 28)] [(ch 1000)] = some Zw.p0 := by kernel_rfl
noncomputable def Zw.t32 : List SE := ncL [⟨.len, (ch 1000), (.int .i64 0), (ch 1002)⟩,
  ⟨.bin .lss, (.int .i64 1), (ch 1002), (.bool true)⟩,
  ⟨.idx 1, (ch 1000), (.int .i64 1), (.pointer (some ⟨8, 0, none⟩))⟩,
  ⟨.bin .rem, (ch 1001), (.int .i64 5), (ch 1003)⟩,
  ⟨.bin .add, (ch 1003), (.int .i64 5), (ch 1004)⟩,
  ⟨.bin .rem, (ch 1004), (.int .i64 5), (.int .i64 0)⟩]
theorem Zw.i32 : Zw.d10.sub 8 [[(ch 1001)]] (idl 8 Zw.d10.objs) (idA 1) (Zw.d10.st 8 []) = true := by kernel_rfl
theorem Zw.r32 : leafNext (fK (Tryz.Es Tryz.m4 (syOf Zw.t32)) 100000 100000 Zw.p0 (Zw.d10.st 8 [[(ch 1001)]]) 2) 8 Zw.d24 [(10, 10), (11, 11), (12, 12), (13, 19)] [(ch 1000)] = some Zw.p0 := by kernel_rfl
noncomputable def Zw.t36 : List SE := ncL [⟨.len, (ch 1000), (.int .i64 0), (ch 1002)⟩,
  ⟨.bin .lss, (.int .i64 1), (ch 1002), (.bool true)⟩,
  ⟨.idx 1, (ch 1000), (.int .i64 1), (.pointer (some ⟨8, 0, none⟩))⟩,
  ⟨.bin .rem, (ch 1001), (.int .i64 5), (ch 1003)⟩,
  ⟨.bin .add, (ch 1003), (.int .i64 5), (ch 1004)⟩,
  ⟨.bin .rem, (ch 1004), (.int .i64 5), (.int .i64 4)⟩]
theorem Zw.i36 : Zw.d10.sub 8 [[(ch 1001)]] (idl 8 Zw.d10.objs) (idA 1) (Zw.d10.st 8 []) = true := by kernel_rfl
theorem Zw.r36 : leafNext (fK (Tryz.Es Tryz.m4 (syOf Zw.t36)) 100000 100000 Zw.p0 (Zw.d10.st 8 [[(ch 1001)]]) 6) 8 Zw.d28 [(10, 10), (11, 11), (12, 12), (13, 41)] [(ch 1000)] = some Zw.p0 := by kernel_rfl
noncomputable def Zw.t40 : List SE := ncL [⟨.len, (ch 1000), (.int .i64 0), (ch 1002)⟩,
  ⟨.bin .lss, (.int .i64 1), (ch 1002), (.bool true)⟩,
  ⟨.idx 1, (ch 1000), (.int .i64 1), (.pointer (some ⟨8, 0, none⟩))⟩,
  ⟨.bin .rem, (ch 1001), (.int .i64 5), (ch 1003)⟩,
  ⟨.bin .add, (ch 1003), (.int .i64 5), (ch 1004)⟩,
  ⟨.bin .rem, (ch 1004), (.int .i64 5), (.int .i64 2)⟩]
theorem Zw.i40 : Zw.d11.sub 8 [[(ch 1001)]] (idl 8 Zw.d11.objs) (idA 1) (Zw.d11.st 8 []) = true := by kernel_rfl
theorem Zw.r40 : leafNext (fK (Tryz.Es Tryz.m4 (syOf Zw.t40)) 100000 100000 Zw.p0 (Zw.d11.st 8 [[(ch 1001)]]) 4) 8 Zw.d31 [(10, 10), (11, 11), (12, 12), (13, 28)] [(ch 1000)] = some Zw.p0 := by kernel_rfl
noncomputable def Zw.t44 : List SE := ncL [⟨.len, (ch 1000), (.int .i64 0), (ch 1002)⟩,
  ⟨.bin .lss, (.int .i64 1), (ch 1002), (.bool true)⟩,
  ⟨.idx 1, (ch 1000), (.int .i64 1), (.pointer (some ⟨8, 0, none⟩))⟩,
  ⟨.bin .rem, (ch 1001), (.int .i64 5), (ch 1003)⟩,
  ⟨.bin .add, (ch 1003), (.int .i64 5), (ch 1004)⟩,
  ⟨.bin .rem, (ch 1004), (.int .i64 5), (.int .i64 0)⟩]
theorem Zw.i44 : Zw.d12.sub 8 [[(ch 1001)]] (idl 8 Zw.d12.objs) (idA 1) (Zw.d12.st 8 []) = true := by kernel_rfl
theorem Zw.r44 : leafNext (fK (Tryz.Es Tryz.m4 (syOf Zw.t44)) 100000 100000 Zw.p0 (Zw.d12.st 8 [[(ch 1001)]]) 2) 8 Zw.d34 [(10, 10), (11, 11), (12, 12), (13, 19)] [(ch 1000)] = some Zw.p0 := by kernel_rfl
noncomputable def Zw.t48 : List SE := ncL [⟨.len, (ch 1000), (.int .i64 0), (ch 1002)⟩,
  ⟨.bin .lss, (.int .i64 1), (ch 1002), (.bool true)⟩,
  ⟨.idx 1, (ch 1000), (.int .i64 1), (.pointer (some ⟨8, 0, none⟩))⟩,
  ⟨.bin .rem, (ch 1001), (.int .i64 5), (ch 1003)⟩,
  ⟨.bin .add, (ch 1003), (.int .i64 5), (ch 1004)⟩,
  ⟨.bin .rem, (ch 1004), (.int .i64 5), (.int .i64 4)⟩]
theorem Zw.i48 : Zw.d12.sub 8 [[(ch 1001)]] (idl 8 Zw.d12.objs) (idA 1) (Zw.d12.st 8 []) = true := by kernel_rfl
theorem Zw.r48 : leafNext (fK (Tryz.Es Tryz.m4 (syOf Zw.t48)) 100000 100000 Zw.p0 (Zw.d12.st 8 [[(ch 1001)]]) 6) 8 Zw.d38 [(10, 10), (11, 11), (12, 12), (13, 41)] [(ch 1000)] = some Zw.p0 := by kernel_rfl
noncomputable def Zw.t52 : List SE := ncL [⟨.len, (ch 1000), (.int .i64 0), (ch 1002)⟩,
  ⟨.bin .lss, (.int .i64 1), (ch 1002), (.bool true)⟩,
  ⟨.idx 1, (ch 1000), (.int .i64 1), (.pointer (some ⟨8, 0, none⟩))⟩,
  ⟨.bin .rem, (ch 1001), (.int .i64 5), (ch 1003)⟩,
  ⟨.bin .add, (ch 1003), (.int .i64 5), (ch 1004)⟩,
  ⟨.bin .rem, (ch 1004), (.int .i64 5), (.int .i64 2)⟩]
theorem Zw.i52 : Zw.d13.sub 8 [[(ch 1001)]] (idl 8 Zw.d13.objs) (idA 1) (Zw.d13.st 8 []) = true := by kernel_rfl
theorem Zw.r52 : leafNext (fK (Tryz.Es Tryz.m4 (syOf Zw.t52)) 100000 100000 Zw.p0 (Zw.d13.st 8 [[(ch 1001)]]) 4) 8 Zw.d41 [(10, 10), (11, 11), (12, 12), (13, 28)] [(ch 1000)] = some Zw.p0 := by kernel_rfl
noncomputable def Zw.t56 : List SE := ncL [⟨.len, (ch 1000), (.int .i64 0), (ch 1002)⟩,
  ⟨.bin .lss, (.int .i64 1), (ch 1002), (.bool true)⟩,
  ⟨.idx 1, (ch 1000), (.int .i64 1), (.pointer (some ⟨8, 0, none⟩))⟩,
  ⟨.bin .rem, (ch 1001), (.int .i64 5), (ch 1003)⟩,
  ⟨.bin .add, (ch 1003), (.int .i64 5), (ch 1004)⟩,
  ⟨.bin .rem, (ch 1004), (.int .i64 5), (.int .i64 0)⟩]
theorem Zw.i56 : Zw.d14.sub 8 [[(ch 1001)]] (idl 8 Zw.d14.objs) (idA 1) (Zw.d14.st 8 []) = true := by kernel_rfl
theorem Zw.r56 : leafNext (fK (Tryz.Es Tryz.m4 (syOf Zw.t56)) 100000 100000 Zw.p0 (Zw.d14.st 8 [[(ch 1001)]]) 2) 8 Zw.d44 [(10, 10), (11, 11), (12, 12), (13, 19)] [(ch 1000)] = some Zw.p0 := by kernel_rfl
noncomputable def Zw.t60 : List SE := ncL [⟨.len, (ch 1000), (.int .i64 0), (ch 1002)⟩,
  ⟨.bin .lss, (.int .i64 1), (ch 1002), (.bool true)⟩,
  ⟨.idx 1, (ch 1000), (.int .i64 1), (.pointer (some ⟨8, 0, none⟩))⟩,
  ⟨.bin .rem, (ch 1001), (.int .i64 5), (ch 1003)⟩,
  ⟨.bin .add, (ch 1003), (.int .i64 5), (ch 1004)⟩,
  ⟨.bin .rem, (ch 1004), (.int .i64 5), (.int .i64 4)⟩]
theorem Zw.i60 : Zw.d14.sub 8 [[(ch 1001)]] (idl 8 Zw.d14.objs) (idA 1) (Zw.d14.st 8 []) = true := by kernel_rfl
theorem Zw.r60 : leafNext (fK (Tryz.Es Tryz.m4 (syOf Zw.t60)) 100000 100000 Zw.p0 (Zw.d14.st 8 [[(ch 1001)]]) 6) 8 Zw.d48 [(10, 10), (11, 11), (12, 12), (13, 41)] [(ch 1000)] = some Zw.p0 := by kernel_rfl
noncomputable def Zw.t64 : List SE := ncL [⟨.len, (ch 1000), (.int .i64 0), (ch 1002)⟩,
  ⟨.bin .lss, (.int .i64 1), (ch 1002), (.bool true)⟩,
  ⟨.idx 1, (ch 1000), (.int .i64 1), (.pointer (some ⟨8, 0, none⟩))⟩,
  ⟨.bin .rem, (ch 1001), (.int .i64 5), (ch 1003)⟩,
  ⟨.bin .add, (ch 1003), (.int .i64 5), (ch 1004)⟩,
  ⟨.bin .rem, (ch 1004), (.int .i64 5), (.int .i64 2)⟩]
theorem Zw.i64 : Zw.d15.sub 8 [[(ch 1001)]] (idl 8 Zw.d15.objs) (idA 1) (Zw.d15.st 8 []) = true := by kernel_rfl
theorem Zw.r64 : leafNext (fK (Tryz.Es Tryz.m4 (syOf Zw.t64)) 100000 100000 Zw.p0 (Zw.d15.st 8 [[(ch 1001)]]) 4) 8 Zw.d51 [(10, 10), (11, 11), (12, 12), (13, 28)] [(ch 1000)] = some Zw.p0 := by kernel_rfl
noncomputable def Zw.t68 : List SE := ncL [⟨.len, (ch 1000), (.int .i64 0), (ch 1002)⟩,
  ⟨.bin .lss, (.int .i64 1), (ch 1002), (.bool true)⟩,
  ⟨.idx 1, (ch 1000), (.int .i64 1), (.pointer (some ⟨8, 0, none⟩))⟩,
  ⟨.bin .rem, (ch 1001), (.int .i64 5), (ch 1003)⟩,
  ⟨.bin .add, (ch 1003), (.int .i64 5), (ch 1004)⟩,
  ⟨.bin .rem, (ch 1004), (.int .i64 5), (.int .i64 0)⟩]
theorem Zw.i68 : Zw.d16.sub 8 [[(ch 1001)]] (idl 8 Zw.d16.objs) (idA 1) (Zw.d16.st 8 []) = true := by kernel_rfl
theorem Zw.r68 : leafNext (fK (Tryz.Es Tryz.m4 (syOf Zw.t68)) 100000 100000 Zw.p0 (Zw.d16.st 8 [[(ch 1001)]]) 2) 8 Zw.d54 [(10, 10), (11, 11), (12, 12), (13, 19)] [(ch 1000)] = some Zw.p0 := by kernel_rfl
noncomputable def Zw.t72 : List SE := ncL [⟨.len, (ch 1000), (.int .i64 0), (ch 1002)⟩,
  ⟨.bin .lss, (.int .i64 1), (ch 1002), (.bool true)⟩,
  ⟨.idx 1, (ch 1000), (.int .i64 1), (.pointer (some ⟨8, 0, none⟩))⟩,
  ⟨.bin .rem, (ch 1001), (.int .i64 5), (ch 1003)⟩,
  ⟨.bin .add, (ch 1003), (.int .i64 5), (ch 1004)⟩,
  ⟨.bin .rem, (ch 1004), (.int .i64 5), (.int .i64 4)⟩]
theorem Zw.i72 : Zw.d16.sub 8 [[(ch 1001)]] (idl 8 Zw.d16.objs) (idA 1) (Zw.d16.st 8 []) = true := by kernel_rfl
theorem Zw.r72 : leafNext (fK (Tryz.Es Tryz.m4 (syOf Zw.t72)) 100000 100000 Zw.p0 (Zw.d16.st 8 [[(ch 1001)]]) 6) 8 Zw.d58 [(10, 10), (11, 11), (12, 12), (13, 41)] [(ch 1000)] = some Zw.p0 := by kernel_rfl
noncomputable def Zw.t76 : List SE := ncL [⟨.len, (ch 1000), (.int .i64 0), (ch 1002)⟩,
  ⟨.bin .lss, (.int .i64 1), (ch 1002), (.bool true)⟩,
  ⟨.idx 1, (ch 1000), (.int .i64 1), (.pointer (some ⟨8, 0, none⟩))⟩,
  ⟨.bin .rem, (ch 1001), (.int .i64 5), (ch 1003)⟩,
  ⟨.bin .add, (ch 1003), (.int .i64 5), (ch 1004)⟩,
  ⟨.bin .rem, (ch 1004), (.int .i64 5), (.int .i64 2)⟩]
theorem Zw.i76 : Zw.d17.sub 8 [[(ch 1001)]] (idl 8 Zw.d17.objs) (idA 1) (Zw.d17.st 8 []) = true := by kernel_rfl
theorem Zw.r76 : leafNext (fK (Tryz.Es Tryz.m4 (syOf Zw.t76)) 100000 100000 Zw.p0 (Zw.d17.st 8 [[(ch 1001)]]) 4) 8 Zw.d61 [(10, 10), (11, 11), (12, 12), (13, 28)] [(ch 1000)] = some Zw.p0 := by kernel_rfl
noncomputable def Zw.t80 : List SE := ncL [⟨.len, (ch 1000), (.int .i64 0), (ch 1002)⟩,
  ⟨.bin .lss, (.int .i64 1), (ch 1002), (.bool true)⟩,
  ⟨.idx 1, (ch 1000), (.int .i64 1), (.pointer (some ⟨8, 0, none⟩))⟩,
  ⟨.bin .rem, (ch 1001), (.int .i64 5), (ch 1003)⟩,
  ⟨.bin .add, (ch 1003), (.int .i64 5), (ch 1004)⟩,
  ⟨.bin .rem, (ch 1004), (.int .i64 5), (.int .i64 0)⟩]
theorem Zw.i80 : Zw.d18.sub 8 [[(ch 1001)]] (idl 8 Zw.d18.objs) (idA 1) (Zw.d18.st 8 []) = true := by kernel_rfl
theorem Zw.r80 : leafNext (fK (Tryz.Es Tryz.m4 (syOf Zw.t80)) 100000 100000 Zw.p0 (Zw.d18.st 8 [[(ch 1001)]]) 2) 8 Zw.d64 [(10, 10), (11, 11), (12, 12), (13, 19)] [(ch 1000)] = some Zw.p0 := by kernel_rfl
noncomputable def Zw.t84 : List SE := ncL [⟨.len, (ch 1000), (.int .i64 0), (ch 1002)⟩,
  ⟨.bin .lss, (.int .i64 1), (ch 1002), (.bool true)⟩,
  ⟨.idx 1, (ch 1000), (.int .i64 1), (.pointer (some ⟨8, 0, none⟩))⟩,
  ⟨.bin .rem, (ch 1001), (.int .i64 5), (ch 1003)⟩,
  ⟨.bin .add, (ch 1003), (.int .i64 5), (ch 1004)⟩,
  ⟨.bin .rem, (ch 1004), (.int .i64 5), (.int .i64 4)⟩]
theorem Zw.i84 : Zw.d18.sub 8 [[(ch 1001)]] (idl 8 Zw.d18.objs) (idA 1) (Zw.d18.st 8 []) = true := by kernel_rfl
theorem Zw.r84 : leafNext (fK (Tryz.Es Tryz.m4 (syOf Zw.t84)) 100000 100000 Zw.p0 (Zw.d18.st 8 [[(ch 1001)]]) 6) 8 Zw.d68 [(10, 10), (11, 11), (12, 12), (13, 41)] [(ch 1000)] = some Zw.p0 := by kernel_rfl
noncomputable def Zw.t88 : List SE := ncL []
theorem Zw.i88 : Zw.d21.sub 8 [] (idl 8 Zw.d21.objs) (idA 1) (Zw.d21.st 8 []) = true := by kernel_rfl
theorem Zw.r88 : leafFin (Tryz.Es Tryz.m4 (syOf Zw.t88)) Tryz.f6 (fK (Tryz.Es Tryz.m4 (syOf Zw.t88)) 100000 100000 Zw.p0 (Zw.d21.st 8 []) 7) = true := by kernel_rfl
noncomputable def Zw.t92 : List SE := ncL []
theorem Zw.i92 : Zw.d25.sub 8 [] (idl 8 Zw.d25.objs) (idA 1) (Zw.d25.st 8 []) = true := by kernel_rfl
theorem Zw.r92 : leafFin (Tryz.Es Tryz.m4 (syOf Zw.t92)) Tryz.f6 (fK (Tryz.Es Tryz.m4 (syOf Zw.t92)) 100000 100000 Zw.p0 (Zw.d25.st 8 []) 7) = true := by kernel_rfl
noncomputable def Zw.t96 : List SE := ncL []
theorem Zw.i96 : Zw.d29.sub 8 [] (idl 8 Zw.d29.objs) (idA 1) (Zw.d29.st 8 []) = true := by kernel_rfl
theorem Zw.r96 : leafFin (Tryz.Es Tryz.m4 (syOf Zw.t96)) Tryz.f6 (fK (Tryz.Es Tryz.m4 (syOf Zw.t96)) 100000 100000 Zw.p0 (Zw.d29.st 8 []) 7) = true := by kernel_rfl
noncomputable def Zw.t100 : List SE := ncL []
theorem Zw.i100 : Zw.d33.sub 8 [] (idl 8 Zw.d33.objs) (idA 1) (Zw.d33.st 8 []) = true := by kernel_rfl
theorem Zw.r100 : leafFin (Tryz.Es Tryz.m4 (syOf Zw.t100)) Tryz.f6 (fK (Tryz.Es Tryz.m4 (syOf Zw.t100)) 100000 100000 Zw.p0 (Zw.d33.st 8 []) 11) = true := by kernel_rfl
noncomputable def Zw.t104 : List SE := ncL []
theorem Zw.i104 : Zw.d37.sub 8 [] (idl 8 Zw.d37.objs) (idA 1) (Zw.d37.st 8 []) = true := by kernel_rfl
theorem Zw.r104 : leafFin (Tryz.Es Tryz.m4 (syOf Zw.t104)) Tryz.f6 (fK (Tryz.Es Tryz.m4 (syOf Zw.t104)) 100000 100000 Zw.p0 (Zw.d37.st 8 []) 11) = true := by kernel_rfl
noncomputable def Zw.t108 : List SE := ncL []
theorem Zw.i108 : Zw.d41.sub 8 [] (idl 8 Zw.d41.objs) (idA 1) (Zw.d41.st 8 []) = true := by kernel_rfl
theorem Zw.r108 : leafFin (Tryz.Es Tryz.m4 (syOf Zw.t108)) Tryz.f6 (fK (Tryz.Es Tryz.m4 (syOf Zw.t108)) 100000 100000 Zw.p0 (Zw.d41.st 8 []) 11) = true := by kernel_rfl
noncomputable def Zw.t112 : List SE := ncL [⟨.len, (ch 1000), (.int .i64 0), (ch 1002)⟩,
  ⟨.bin .lss, (.int .i64 2), (ch 1002), (.bool true)⟩,
  ⟨.idx 1, (ch 1000), (.int .i64 2), (.pointer (some ⟨8, 0, none⟩))⟩,
  ⟨.bin .rem, (ch 1001), (.int .i64 5), (ch 1003)⟩,
  ⟨.bin .add, (ch 1003), (.int .i64 5), (ch 1004)⟩,
  ⟨.bin .rem, (ch 1004), (.int .i64 5), (.int .i64 1)⟩]
theorem Zw.i112 : Zw.d44.sub 8 [[(ch 1001)]] (idl 8 Zw.d44.objs) (idA 1) (Zw.d44.st 8 []) = true := by kernel_rfl
theorem Zw.r112 : leafNext (fK (Tryz.Es Tryz.m4 (syOf Zw.t112)) 100000 100000 Zw.p0 (Zw.d44.st 8 [[(ch 1001)]]) 3) 8 Zw.d70 [(10, 10), (11, 11), (12, 12), (13, 13), (14, 24)] [(ch 1000)] = some Zw.p0 := by kernel_rfl
noncomputable def Zw.t116 : List SE := ncL [⟨.len, (ch 1000), (.int .i64 0), (ch 1001)⟩,
  ⟨.bin .lss, (.int .i64 2), (ch 1001), (.bool false)⟩]
theorem Zw.i116 : Zw.d44.sub 8 [] (idl 8 Zw.d44.objs) (idA 1) (Zw.d44.st 8 []) = true := by kernel_rfl
theorem Zw.r116 : leafNext (fK (Tryz.Es Tryz.m4 (syOf Zw.t116)) 100000 100000 Zw.p0 (Zw.d44.st 8 []) 2) 8 Zw.d69 [(10, 10), (11, 11), (12, 12), (13, 13), (14, 20)] [(ch 1000)] = some Zw.p0 := by kernel_rfl
noncomputable def Zw.t120 : List SE := ncL [⟨.len, (ch 1000), (.int .i64 0), (ch 1002)⟩,
  ⟨.bin .lss, (.int .i64 2), (ch 1002), (.bool true)⟩,
  ⟨.idx 1, (ch 1000), (.int .i64 2), (.pointer (some ⟨8, 0, none⟩))⟩,
  ⟨.bin .rem, (ch 1001), (.int .i64 5), (ch 1003)⟩,
  ⟨.bin .add, (ch 1003), (.int .i64 5), (ch 1004)⟩,
  ⟨.bin .rem, (ch 1004), (.int .i64 5), (.int .i64 3)⟩]
theorem Zw.i120 : Zw.d45.sub 8 [[(ch 1001)]] (idl 8 Zw.d45.objs) (idA 1) (Zw.d45.st 8 []) = true := by kernel_rfl
theorem Zw.r120 : leafNext (fK (Tryz.Es Tryz.m4 (syOf Zw.t120)) 100000 100000 Zw.p0 (Zw.d45.st 8 [[(ch 1001)]]) 5) 8 Zw.d77 [(10, 10), (11, 11), (12, 12), (13, 13), (14, 35)] [(ch 1000)] = some Zw.p0 := by kernel_rfl
noncomputable def Zw.t124 : List SE := ncL [⟨.len, (ch 1000), (.int .i64 0), (ch 1002)⟩,
  ⟨.bin .lss, (.int .i64 2), (ch 1002), (.bool true)⟩,
  ⟨.idx 1, (ch 1000), (.int .i64 2), (.pointer (some ⟨8, 0, none⟩))⟩,
  ⟨.bin .rem, (ch 1001), (.int .i64 5), (ch 1003)⟩,
  ⟨.bin .add, (ch 1003), (.int .i64 5), (ch 1004)⟩,
  ⟨.bin .rem, (ch 1004), (.int .i64 5), (.int .i64 1)⟩]
theorem Zw.i124 : Zw.d46.sub 8 [[(ch 1001)]] (idl 8 Zw.d46.objs) (idA 1) (Zw.d46.st 8 []) = true := by kernel_rfl
theorem Zw.r124 : leafNext (fK (Tryz.Es Tryz.m4 (syOf Zw.t124)) 100000 100000 Zw.p0 (Zw.d46.st 8 [[(ch 1001)]]) 3) 8 Zw.d80 [(10, 10), (11, 11), (12, 12), (13, 13), (14, 24)] [(ch 1000)] = some Zw.p0 := by kernel_rfl
noncomputable def Zw.t128 : List SE := ncL [⟨.len, (ch 1000), (.int .i64 0), (ch 1001)⟩,
  ⟨.bin .lss, (.int .i64 2), (ch 1001), (.bool false)⟩]
theorem Zw.i128 : Zw.d46.sub 8 [] (idl 8 Zw.d46.objs) (idA 1) (Zw.d46.st 8 []) = true := by kernel_rfl
theorem Zw.r128 : leafNext (fK (Tryz.Es Tryz.m4 (syOf Zw.t128)) 100000 100000 Zw.p0 (Zw.d46.st 8 []) 2) 8 Zw.d79 [(10, 10), (11, 11), (12, 12), (13, 13), (14, 20)] [(ch 1000)] = some Zw.p0 := by kernel_rfl
noncomputable def Zw.t132 : List SE := ncL [⟨.len, (ch 1000), (.int .i64 0), (ch 1002)⟩,
  ⟨.bin .lss, (.int .i64 2), (ch 1002), (.bool true)⟩,
  ⟨.idx 1, (ch 1000), (.int .i64 2), (.pointer (some ⟨8, 0, none⟩))⟩,
  ⟨.bin .rem, (ch 1001), (.int .i64 5), (ch 1003)⟩,
  ⟨.bin .add, (ch 1003), (.int .i64 5), (ch 1004)⟩,
  ⟨.bin .rem, (ch 1004), (.int .i64 5), (.int .i64 3)⟩]
theorem Zw.i132 : Zw.d47.sub 8 [[(ch 1001)]] (idl 8 Zw.d47.objs) (idA 1) (Zw.d47.st 8 []) = true := by kernel_rfl
theorem Zw.r132 : leafNext (fK (Tryz.Es Tryz.m4 (syOf Zw.t132)) 100000 100000 Zw.p0 (Zw.d47.st 8 [[(ch 1001)]]) 5) 8 Zw.d87 [(10, 10), (11, 11), (12, 12), (13, 13), (14, 35)] [(ch 1000)] = some Zw.p0 := by kernel_rfl
noncomputable def Zw.t136 : List SE := ncL [⟨.len, (ch 1000), (.int .i64 0), (ch 1002)⟩,
  ⟨.bin .lss, (.int .i64 2), (ch 1002), (.bool true)⟩,
  ⟨.idx 1, (ch 1000), (.int .i64 2), (.pointer (some ⟨8, 0, none⟩))⟩,
  ⟨.bin .rem, (ch 1001), (.int .i64 5), (ch 1003)⟩,
  ⟨.bin .add, (ch 1003), (.int .i64 5), (ch 1004)⟩,
  ⟨.bin .rem, (ch 1004), (.int .i64 5), (.int .i64 1)⟩]
theorem Zw.i136 : Zw.d48.sub 8 [[(ch 1001)]] (idl 8 Zw.d48.objs) (idA 1) (Zw.d48.st 8 []) = true := by kernel_rfl
theorem Zw.r136 : leafNext (fK (Tryz.Es Tryz.m4 (syOf Zw.t136)) 100000 100000 Zw.p0 (Zw.d48.st 8 [[(ch 1001)]]) 3) 8 Zw.d90 [(10, 10), (11, 11), (12, 12), (13, 13), (14, 24)] [(ch 1000)] = some Zw.p0 := by kernel_rfl
noncomputable def Zw.t140 : List SE := ncL [⟨.len, (ch 1000), (.int .i64 0), (ch 1001)⟩,
  ⟨.bin .lss, (.int .i64 2), (ch 1001), (.bool false)⟩]
theorem Zw.i140 : Zw.d48.sub 8 [] (idl 8 Zw.d48.objs) (idA 1) (Zw.d48.st 8 []) = true := by kernel_rfl
theorem Zw.r140 : leafNext (fK (Tryz.Es Tryz.m4 (syOf Zw.t140)) 100000 100000 Zw.p0 (Zw.d48.st 8 []) 2) 8 Zw.d89 [(10, 10), (11, 11), (12, 12), (13, 13), (14, 20)] [(ch 1000)] = some Zw.p0 := by kernel_rfl
noncomputable def Zw.t144 : List SE := ncL [⟨.len, (ch 1000), (.int .i64 0), (ch 1002)⟩,
  ⟨.bin .lss, (.int .i64 2), (ch 1002), (.bool true)⟩,
  ⟨.idx 1, (ch 1000), (.int .i64 2), (.pointer (some ⟨8, 0, none⟩))⟩,
  ⟨.bin .rem, (ch 1001), (.int .i64 5), (ch 1003)⟩,
  ⟨.bin .add, (ch 1003), (.int .i64 5), (ch 1004)⟩,
  ⟨.bin .rem, (ch 1004), (.int .i64 5), (.int .i64 3)⟩]
theorem Zw.i144 : Zw.d49.sub 8 [[(ch 1001)]] (idl 8 Zw.d49.objs) (idA 1) (Zw.d49.st 8 []) = true := by kernel_rfl
theorem Zw.r144 : leafNext (fK (Tryz.Es Tryz.m4 (syOf Zw.t144)) 100000 100000 Zw.p0 (Zw.d49.st 8 [[(ch 1001)]]) 5) 8 Zw.d97 [(10, 10), (11, 11), (12, 12), (13, 13), (14, 35)] [(ch 1000)] = some Zw.p0 := by kernel_rfl
noncomputable def Zw.t148 : List SE := ncL [⟨.len, (ch 1000), (.int .i64 0), (ch 1002)⟩,
  ⟨.bin .lss, (.int .i64 2), (ch 1002), (.bool true)⟩,
  ⟨.idx 1, (ch 1000), (.int .i64 2), (.pointer (some ⟨8, 0, none⟩))⟩,
  ⟨.bin .rem, (ch 1001), (.int .i64 5), (ch 1003)⟩,
  ⟨.bin .add, (ch 1003), (.int .i64 5), (ch 1004)⟩,
  ⟨.bin .rem, (ch 1004), (.int .i64 5), (.int .i64 1)⟩]
theorem Zw.i148 : Zw.d50.sub 8 [[(ch 1001)]] (idl 8 Zw.d50.objs) (idA 1) (Zw.d50.st 8 []) = true := by kernel_rfl
theorem Zw.r148 : leafNext (fK (Tryz.Es Tryz.m4 (syOf Zw.t148)) 100000 100000 Zw.p0 (Zw.d50.st 8 [[(ch 1001)]]) 3) 8 Zw.d100 [(10, 10), (11, 11), (12, 12), (13, 13), (14, 24)] [(ch 1000)] = some Zw.p0 := by kernel_rfl
noncomputable def Zw.t152 : List SE := ncL [⟨.len, (ch 1000), (.int .i64 0), (ch 1001)⟩,
  ⟨.bin .lss, (.int .i64 2), (ch 1001), (.bool false)⟩]
theorem Zw.i152 : Zw.d50.sub 8 [] (idl 8 Zw.d50.objs) (idA 1) (Zw.d50.st 8 []) = true := by kernel_rfl
theorem Zw.r152 : leafNext (fK (Tryz.Es Tryz.m4 (syOf Zw.t152)) 100000 100000 Zw.p0 (Zw.d50.st 8 []) 2) 8 Zw.d99 [(10, 10), (11, 11), (12, 12), (13, 13), (14, 20)] [(ch 1000)] = some Zw.p0 := by kernel_rfl
noncomputable def Zw.t156 : List SE := ncL [⟨.len, (ch 1000), (.int .i64 0), (ch 1002)⟩,
  ⟨.bin .lss, (.int .i64 2), (ch 1002), (.bool true)⟩,
  ⟨.idx 1, (ch 1000), (.int .i64 2), (.pointer (some ⟨8, 0, none⟩))⟩,
  ⟨.bin .rem, (ch 1001), (.int .i64 5), (ch 1003)⟩,
  ⟨.bin .add, (ch 1003), (.int .i64 5), (ch 1004)⟩,
  ⟨.bin .rem, (ch 1004), (.int .i64 5), (.int .i64 3)⟩]
theorem Zw.i156 : Zw.d51.sub 8 [[(ch 1001)]] (idl 8 Zw.d51.objs) (idA 1) (Zw.d51.st 8 []) = true := by kernel_rfl
theorem Zw.r156 : leafNext (fK (Tryz.Es Tryz.m4 (syOf Zw.t156)) 100000 100000 Zw.p0 (Zw.d51.st 8 [[(ch 1001)]]) 5) 8 Zw.d107 [(10, 10), (11, 11), (12, 12), (13, 13), (14, 35)] [(ch 1000)] = some Zw.p0 := by kernel_rfl
noncomputable def Zw.t160 : List SE := ncL [⟨.len, (ch 1000), (.int .i64 0), (ch 1002)⟩,
  ⟨.bin .lss, (.int .i64 2), (ch 1002), (.bool true)⟩,
  ⟨.idx 1, (ch 1000), (.int .i64 2), (.pointer (some ⟨8, 0, none⟩))⟩,
  ⟨.bin .rem, (ch 1001), (.int .i64 5), (ch 1003)⟩,
  ⟨.bin .add, (ch 1003), (.int .i64 5), (ch 1004)⟩,
  ⟨.bin .rem, (ch 1004), (.int .i64 5), (.int .i64 1)⟩]
theorem Zw.i160 : Zw.d52.sub 8 [[(ch 1001)]] (idl 8 Zw.d52.objs) (idA 1) (Zw.d52.st 8 []) = true := by kernel_rfl
theorem Zw.r160 : leafNext (fK (Tryz.Es Tryz.m4 (syOf Zw.t160)) 100000 100000 Zw.p0 (Zw.d52.st 8 [[(ch 1001)]]) 3) 8 Zw.d110 [(10, 10), (11, 11), (12, 12), (13, 13), (14, 24)] [(ch 1000)] = some Zw.p0 := by kernel_rfl
noncomputable def Zw.t164 : List SE := ncL [⟨.len, (ch 1000), (.int .i64 0), (ch 1001)⟩,
  ⟨.bin .lss, (.int .i64 2), (ch 1001), (.bool false)⟩]
theorem Zw.i164 : Zw.d52.sub 8 [] (idl 8 Zw.d52.objs) (idA 1) (Zw.d52.st 8 []) = true := by kernel_rfl
theorem Zw.r164 : leafNext (fK (Tryz.Es Tryz.m4 (syOf Zw.t164)) 100000 100000 Zw.p0 (Zw.d52.st 8 []) 2) 8 Zw.d109 [(10, 10), (11, 11), (12, 12), (13, 13), (14, 20)] [(ch 1000)] = some Zw.p0 := by kernel_rfl
noncomputable def Zw.t168 : List SE := ncL [⟨.len, (ch 1000), (.int .i64 0), (ch 1002)⟩,
  ⟨.bin .lss, (.int .i64 2), (ch 1002), (.bool true)⟩,
  ⟨.idx 1, (ch 1000), (.int .i64 2), (.pointer (some ⟨8, 0, none⟩))⟩,
  ⟨.bin .rem, (ch 1001), (.int .i64 5), (ch 1003)⟩,
  ⟨.bin .add, (ch 1003), (.int .i64 5), (ch 1004)⟩,
  ⟨.bin .rem, (ch 1004), (.int .i64 5), (.int .i64 3)⟩]
theorem Zw.i168 : Zw.d53.sub 8 [[(ch 1001)]] (idl 8 Zw.d53.objs) (idA 1) (Zw.d53.st 8 []) = true := by kernel_rfl
theorem Zw.r168 : leafNext (fK (Tryz.Es Tryz.m4 (syOf Zw.t168)) 100000 100000 Zw.p0 (Zw.d53.st 8 [[(ch 1001)]]) 5) 8 Zw.d117 [(10, 10), (11, 11), (12, 12), (13, 13), (14, 35)] [(ch 1000)] = some Zw.p0 := by kernel_rfl
noncomputable def Zw.t172 : List SE := ncL [⟨.len, (ch 1000), (.int .i64 0), (ch 1002)⟩,
  ⟨.bin .lss, (.int .i64 2), (ch 1002), (.bool true)⟩,
  ⟨.idx 1, (ch 1000), (.int .i64 2), (.pointer (some ⟨8, 0, none⟩))⟩,
  ⟨.bin .rem, (ch 1001), (.int .i64 5), (ch 1003)⟩,
  ⟨.bin .add, (ch 1003), (.int .i64 5), (ch 1004)⟩,
  ⟨.bin .rem, (ch 1004), (.int .i64 5), (.int .i64 1)⟩]
theorem Zw.i172 : Zw.d54.sub 8 [[(ch 1001)]] (idl 8 Zw.d54.objs) (idA 1) (Zw.d54.st 8 []) = true := by kernel_rfl
theorem Zw.r172 : leafNext (fK (Tryz.Es Tryz.m4 (syOf Zw.t172)) 100000 100000 Zw.p0 (Zw.d54.st 8 [[(ch 1001)]]) 3) 8 Zw.d120 [(10, 10), (11, 11), (12, 12), (13, 13), (14, 24)] [(ch 1000)] = some Zw.p0 := by kernel_rfl
noncomputable def Zw.t176 : List SE := ncL [⟨.len, (ch 1000), (.int .i64 0), (ch 1001)⟩,
  ⟨.bin .lss, (.int .i64 2), (ch 1001), (.bool false)⟩]
theorem Zw.i176 : Zw.d54.sub 8 [] (idl 8 Zw.d54.objs) (idA 1) (Zw.d54.st 8 []) = true := by kernel_rfl
theorem Zw.r176 : leafNext (fK (Tryz.Es Tryz.m4 (syOf Zw.t176)) 100000 100000 Zw.p0 (Zw.d54.st 8 []) 2) 8 Zw.d119 [(10, 10), (11, 11), (12, 12), (13, 13), (14, 20)] [(ch 1000)] = some Zw.p0 := by kernel_rfl
noncomputable def Zw.t180 : List SE := ncL [⟨.len, (ch 1000), (.int .i64 0), (ch 1002)⟩,
  ⟨.bin .lss, (.int .i64 2), (ch 1002), (.bool true)⟩,
  ⟨.idx 1, (ch 1000), (.int .i64 2), (.pointer (some ⟨8, 0, none⟩))⟩,
  ⟨.bin .rem, (ch 1001), (.int .i64 5), (ch 1003)⟩,
  ⟨.bin .add, (ch 1003), (.int .i64 5), (ch 1004)⟩,
  ⟨.bin .rem, (ch 1004), (.int .i64 5), (.int .i64 3)⟩]
theorem Zw.i180 : Zw.d55.sub 8 [[(ch 1001)]] (idl 8 Zw.d55.objs) (idA 1) (Zw.d55.st 8 []) = true := by kernel_rfl
theorem Zw.r180 : leafNext (fK (Tryz.Es Tryz.m4 (syOf Zw.t180)) 100000 100000 Zw.p0 (Zw.d55.st 8 [[(ch 1001)]]) 5) 8 Zw.d127 [(10, 10), (11, 11), (12, 12), (13, 13), (14, 35)] [(ch 1000)] = some Zw.p0 := by kernel_rfl
noncomputable def Zw.t184 : List SE := ncL [⟨.len, (ch 1000), (.int .i64 0), (ch 1002)⟩,
  ⟨.bin .lss, (.int .i64 2), (ch 1002), (.bool true)⟩,
  ⟨.idx 1, (ch 1000), (.int .i64 2), (.pointer (some ⟨8, 0, none⟩))⟩,
  ⟨.bin .rem, (ch 1001), (.int .i64 5), (ch 1003)⟩,
  ⟨.bin .add, (ch 1003), (.int .i64 5), (ch 1004)⟩,
  ⟨.bin .rem, (ch 1004), (.int .i64 5), (.int .i64 1)⟩]
theorem Zw.i184 : Zw.d56.sub 8 [[(ch 1001)]] (idl 8 Zw.d56.objs) (idA 1) (Zw.d56.st 8 []) = true := by kernel_rfl
theorem Zw.r184 : leafNext (fK (Tryz.Es Tryz.m4 (syOf Zw.t184)) 100000 100000 Zw.p0 (Zw.d56.st 8 [[(ch 1001)]]) 3) 8 Zw.d130 [(10, 10), (11, 11), (12, 12), (13, 13), (14, 24)] [(ch 1000)] = some Zw.p0 := by kernel_rfl
noncomputable def Zw.t188 : List SE := ncL [⟨.len, (ch 1000), (.int .i64 0), (ch 1001)⟩,
  ⟨.bin .lss, (.int .i64 2), (ch 1001), (.bool false)⟩]
theorem Zw.i188 : Zw.d56.sub 8 [] (idl 8 Zw.d56.objs) (idA 1) (Zw.d56.st 8 []) = true := by kernel_rfl
theorem Zw.r188 : leafNext (fK (Tryz.Es Tryz.m4 (syOf Zw.t188)) 100000 100000 Zw.p0 (Zw.d56.st 8 []) 2) 8 Zw.d129 [(10, 10), (11, 11), (12, 12), (13, 13), (14, 20)] [(ch 1000)] = some Zw.p0 := by kernel_rfl
noncomputable def Zw.t192 : List SE := ncL [⟨.len, (ch 1000), (.int .i64 0), (ch 1002)⟩,
  ⟨.bin .lss, (.int .i64 2), (ch 1002), (.bool true)⟩,
  ⟨.idx 1, (ch 1000), (.int .i64 2), (.pointer (some ⟨8, 0, none⟩))⟩,
  ⟨.bin .rem, (ch 1001), (.int .i64 5), (ch 1003)⟩,
  ⟨.bin .add, (ch 1003), (.int .i64 5), (ch 1004)⟩,
  ⟨.bin .rem, (ch 1004), (.int .i64 5), (.int .i64 3)⟩]
theorem Zw.i192 : Zw.d57.sub 8 [[(ch 1001)]] (idl 8 Zw.d57.objs) (idA 1) (Zw.d57.st 8 []) = true := by kernel_rfl
theorem Zw.r192 : leafNext (fK (Tryz.Es Tryz.m4 (syOf Zw.t192)) 100000 100000 Zw.p0 (Zw.d57.st 8 [[(ch 1001)]]) 5) 8 Zw.d137 [(10, 10), (11, 11), (12, 12), (13, 13), (14, 35)] [(ch 1000)] = some Zw.p0 := by kernel_rfl
noncomputable def Zw.t196 : List SE := ncL [⟨.len, (ch 1000), (.int .i64 0), (ch 1002)⟩,
  ⟨.bin .lss, (.int .i64 2), (ch 1002), (.bool true)⟩,
  ⟨.idx 1, (ch 1000), (.int .i64 2), (.pointer (some ⟨8, 0, none⟩))⟩,
  ⟨.bin .rem, (ch 1001), (.int .i64 5), (ch 1003)⟩,
  ⟨.bin .add, (ch 1003), (.int .i64 5), (ch 1004)⟩,
  ⟨.bin .rem, (ch 1004), (.int .i64 5), (.int .i64 1)⟩]
theorem Zw.i196 : Zw.d58.sub 8 [[(ch 1001)]] (idl 8 Zw.d58.objs) (idA 1) (Zw.d58.st 8 []) = true := by kernel_rfl
theorem Zw.r196 : leafNext (fK (Tryz.Es Tryz.m4 (syOf Zw.t196)) 100000 100000 Zw.p0 (Zw.d58.st 8 [[(ch 1001)]]) 3) 8 Zw.d140 [(10, 10), (11, 11), (12, 12), (13, 13), (14, 24)] [(ch 1000)] = some Zw.p0 := by kernel_rfl
noncomputable def Zw.t200 : List SE := ncL [⟨.len, (ch 1000), (.int .i64 0), (ch 1001)⟩,
  ⟨.bin .lss, (.int .i64 2), (ch 1001), (.bool false)⟩]
theorem Zw.i200 : Zw.d58.sub 8 [] (idl 8 Zw.d58.objs) (idA 1) (Zw.d58.st 8 []) = true := by kernel_rfl
theorem Zw.r200 : leafNext (fK (Tryz.Es Tryz.m4 (syOf Zw.t200)) 100000 100000 Zw.p0 (Zw.d58.st 8 []) 2) 8 Zw.d139 [(10, 10), (11, 11), (12, 12), (13, 13), (14, 20)] [(ch 1000)] = some Zw.p0 := by kernel_rfl
noncomputable def Zw.t204 : List SE := ncL [⟨.len, (ch 1000), (.int .i64 0), (ch 1002)⟩,
  ⟨.bin .lss, (.int .i64 2), (ch 1002), (.bool true)⟩,
  ⟨.idx 1, (ch 1000), (.int .i64 2), (.pointer (some ⟨8, 0, none⟩))⟩,
  ⟨.bin .rem, (ch 1001), (.int .i64 5), (ch 1003)⟩,
  ⟨.bin .add, (ch 1003), (.int .i64 5), (ch 1004)⟩,
  ⟨.bin .rem, (ch 1004), (.int .i64 5), (.int .i64 3)⟩]
theorem Zw.i204 : Zw.d59.sub 8 [[(ch 1001)]] (idl 8 Zw.d59.objs) (idA 1) (Zw.d59.st 8 []) = true := by kernel_rfl
theorem Zw.r204 : leafNext (fK (Tryz.Es Tryz.m4 (syOf Zw.t204)) 100000 100000 Zw.p0 (Zw.d59.st 8 [[(ch 1001)]]) 5) 8 Zw.d147 [(10, 10), (11, 11), (12, 12), (13, 13), (14, 35)] [(ch 1000)] = some Zw.p0 := by kernel_rfl
noncomputable def Zw.t208 : List SE := ncL [⟨.len, (ch 1000), (.int .i64 0), (ch 1002)⟩,
  ⟨.bin .lss, (.int .i64 2), (ch 1002), (.bool true)⟩,
  ⟨.idx 1, (ch 1000), (.int .i64 2), (.pointer (some ⟨8, 0, none⟩))⟩,
  ⟨.bin .rem, (ch 1001), (.int .i64 5), (ch 1003)⟩,
  ⟨.bin .add, (ch 1003), (.int .i64 5), (ch 1004)⟩,
  ⟨.bin .rem, (ch 1004), (.int .i64 5), (.int .i64 1)⟩]
theorem Zw.i208 : Zw.d60.sub 8 [[(ch 1001)]] (idl 8 Zw.d60.objs) (idA 1) (Zw.d60.st 8 []) = true := by kernel_rfl
theorem Zw.r208 : leafNext (fK (Tryz.Es Tryz.m4 (syOf Zw.t208)) 100000 100000 Zw.p0 (Zw.d60.st 8 [[(ch 1001)]]) 3) 8 Zw.d150 [(10, 10), (11, 11), (12, 12), (13, 13), (14, 24)] [(ch 1000)] = some Zw.p0 := by kernel_rfl
noncomputable def Zw.t212 : List SE := ncL [⟨.len, (ch 1000), (.int .i64 0), (ch 1001)⟩,
  ⟨.bin .lss, (.int .i64 2), (ch 1001), (.bool false)⟩]
theorem Zw.i212 : Zw.d60.sub 8 [] (idl 8 Zw.d60.objs) (idA 1) (Zw.d60.st 8 []) = true := by kernel_rfl
theorem Zw.r212 : leafNext (fK (Tryz.Es Tryz.m4 (syOf Zw.t212)) 100000 100000 Zw.p0 (Zw.d60.st 8 []) 2) 8 Zw.d149 [(10, 10), (11, 11), (12, 12), (13, 13), (14, 20)] [(ch 1000)] = some Zw.p0 := by kernel_rfl
noncomputable def Zw.t216 : List SE := ncL [⟨.len, (ch 1000), (.int .i64 0), (ch 1002)⟩,
  ⟨.bin .lss, (.int .i64 2), (ch 1002), (.bool true)⟩,
  ⟨.idx 1, (ch 1000), (.int .i64 2), (.pointer (some ⟨8, 0, none⟩))⟩,
  ⟨.bin .rem, (ch 1001), (.int .i64 5), (ch 1003)⟩,
  ⟨.bin .add, (ch 1003), (.int .i64 5), (ch 1004)⟩,
  ⟨.bin .rem, (ch 1004), (.int .i64 5), (.int .i64 3)⟩]
theorem Zw.i216 : Zw.d61.sub 8 [[(ch 1001)]] (idl 8 Zw.d61.objs) (idA 1) (Zw.d61.st 8 []) = true := by kernel_rfl
theorem Zw.r216 : leafNext (fK (Tryz.Es Tryz.m4 (syOf Zw.t216)) 100000 100000 Zw.p0 (Zw.d61.st 8 [[(ch 1001)]]) 5) 8 Zw.d157 [(10, 10), (11, 11), (12, 12), (13, 13), (14, 35)] [(ch 1000)] = some Zw.p0 := by kernel_rfl
noncomputable def Zw.t220 : List SE := ncL [⟨.len, (ch 1000), (.int .i64 0), (ch 1002)⟩,
  ⟨.bin .lss, (.int .i64 2), (ch 1002), (.bool true)⟩,
  ⟨.idx 1, (ch 1000), (.int .i64 2), (.pointer (some ⟨8, 0, none⟩))⟩,
  ⟨.bin .rem, (ch 1001), (.int .i64 5), (ch 1003)⟩,
  ⟨.bin .add, (ch 1003), (.int .i64 5), (ch 1004)⟩,
  ⟨.bin .rem, (ch 1004), (.int .i64 5), (.int .i64 1)⟩]
theorem Zw.i220 : Zw.d62.sub 8 [[(ch 1001)]] (idl 8 Zw.d62.objs) (idA 1) (Zw.d62.st 8 []) = true := by kernel_rfl
theorem Zw.r220 : leafNext (fK (Tryz.Es Tryz.m4 (syOf Zw.t220)) 100000 100000 Zw.p0 (Zw.d62.st 8 [[(ch 1001)]]) 3) 8 Zw.d160 [(10, 10), (11, 11), (12, 12), (13, 13), (14, 24)] [(ch 1000)] = some Zw.p0 := by kernel_rfl
noncomputable def Zw.t224 : List SE := ncL [⟨.len, (ch 1000), (.int .i64 0), (ch 1001)⟩,
  ⟨.bin .lss, (.int .i64 2), (ch 1001), (.bool false)⟩]
theorem Zw.i224 : Zw.d62.sub 8 [] (idl 8 Zw.d62.objs) (idA 1) (Zw.d62.st 8 []) = true := by kernel_rfl
theorem Zw.r224 : leafNext (fK (Tryz.Es Tryz.m4 (syOf Zw.t224)) 100000 100000 Zw.p0 (Zw.d62.st 8 []) 2) 8 Zw.d159 [(10, 10), (11, 11), (12, 12), (13, 13), (14, 20)] [(ch 1000)] = some Zw.p0 := by kernel_rfl
noncomputable def Zw.t228 : List SE := ncL [⟨.len, (ch 1000), (.int .i64 0), (ch 1002)⟩,
  ⟨.bin .lss, (.int .i64 2), (ch 1002), (.bool true)⟩,
  ⟨.idx 1, (ch 1000), (.int .i64 2), (.pointer (some ⟨8, 0, none⟩))⟩,
  ⟨.bin .rem, (ch 1001), (.int .i64 5), (ch 1003)⟩,
  ⟨.bin .add, (ch 1003), (.int .i64 5), (ch 1004)⟩,
  ⟨.bin .rem, (ch 1004), (.int .i64 5), (.int .i64 3)⟩]
theorem Zw.i228 : Zw.d63.sub 8 [[(ch 1001)]] (idl 8 Zw.d63.objs) (idA 1) (Zw.d63.st 8 []) = true := by kernel_rfl
theorem Zw.r228 : leafNext (fK (Tryz.Es Tryz.m4 (syOf Zw.t228)) 100000 100000 Zw.p0 (Zw.d63.st 8 [[(ch 1001)]]) 5) 8 Zw.d167 [(10, 10), (11, 11), (12, 12), (13, 13), (14, 35)] [(ch 1000)] = some Zw.p0 := by kernel_rfl
noncomputable def Zw.t232 : List SE := ncL [⟨.len, (ch 1000), (.int .i64 0), (ch 1002)⟩,
  ⟨.bin .lss, (.int .i64 2), (ch 1002), (.bool true)⟩,
  ⟨.idx 1, (ch 1000), (.int .i64 2), (.pointer (some ⟨8, 0, none⟩))⟩,
  ⟨.bin .rem, (ch 1001), (.int .i64 5), (ch 1003)⟩,
  ⟨.bin .add, (ch 1003), (.int .i64 5), (ch 1004)⟩,
  ⟨.bin .rem, (ch 1004), (.int .i64 5), (.int .i64 1)⟩]
theorem Zw.i232 : Zw.d64.sub 8 [[(ch 1001)]] (idl 8 Zw.d64.objs) (idA 1) (Zw.d64.st 8 []) = true := by kernel_rfl
theorem Zw.r232 : leafNext (fK (Tryz.Es Tryz.m4 (syOf Zw.t232)) 100000 100000 Zw.p0 (Zw.d64.st 8 [[(ch 1001)]]) 3) 8 Zw.d170 [(10, 10), (11, 11), (12, 12), (13, 13), (14, 24)] [(ch 1000)] = some Zw.p0 := by kernel_rfl
noncomputable def Zw.t236 : List SE := ncL [⟨.len, (ch 1000), (.int .i64 0), (ch 1001)⟩,
  ⟨.bin .lss, (.int .i64 2), (ch 1001), (.bool false)⟩]
theorem Zw.i236 : Zw.d64.sub 8 [] (idl 8 Zw.d64.objs) (idA 1) (Zw.d64.st 8 []) = true := by kernel_rfl
theorem Zw.r236 : leafNext (fK (Tryz.Es Tryz.m4 (syOf Zw.t236)) 100000 100000 Zw.p0 (Zw.d64.st 8 []) 2) 8 Zw.d169 [(10, 10), (11, 11), (12, 12), (13, 13), (14, 20)] [(ch 1000)] = some Zw.p0 := by kernel_rfl
noncomputable def Zw.t240 : List SE := ncL [⟨.len, (ch 1000), (.int .i64 0), (ch 1002)⟩,
  ⟨.bin .lss, (.int .i64 2), (ch 1002), (.bool true)⟩,
  ⟨.idx 1, (ch 1000), (.int .i64 2), (.pointer (some ⟨8, 0, none⟩))⟩,
  ⟨.bin .rem, (ch 1001), (.int .i64 5), (ch 1003)⟩,
  ⟨.bin .add, (ch 1003), (.int .i64 5), (ch 1004)⟩,
  ⟨.bin .rem, (ch 1004), (.int .i64 5), (.int .i64 3)⟩]
theorem Zw.i240 : Zw.d65.sub 8 [[(ch 1001)]] (idl 8 Zw.d65.objs) (idA 1) (Zw.d65.st 8 []) = true := by kernel_rfl
theorem Zw.r240 : leafNext (fK (Tryz.Es Tryz.m4 (syOf Zw.t240)) 100000 100000 Zw.p0 (Zw.d65.st 8 [[(ch 1001)]]) 5) 8 Zw.d177 [(10, 10), (11, 11), (12, 12), (13, 13), (14, 35)] [(ch 1000)] = some Zw.p0 := by kernel_rfl
noncomputable def Zw.t244 : List SE := ncL [⟨.len, (ch 1000), (.int .i64 0), (ch 1002)⟩,
  ⟨.bin .lss, (.int .i64 2), (ch 1002), (.bool true)⟩,
  ⟨.idx 1, (ch 1000), (.int .i64 2), (.pointer (some ⟨8, 0, none⟩))⟩,
  ⟨.bin .rem, (ch 1001), (.int .i64 5), (ch 1003)⟩,
  ⟨.bin .add, (ch 1003), (.int .i64 5), (ch 1004)⟩,
  ⟨.bin .rem, (ch 1004), (.int .i64 5), (.int .i64 1)⟩]
theorem Zw.i244 : Zw.d66.sub 8 [[(ch 1001)]] (idl 8 Zw.d66.objs) (idA 1) (Zw.d66.st 8 []) = true := by kernel_rfl
theorem Zw.r244 : leafNext (fK (Tryz.Es Tryz.m4 (syOf Zw.t244)) 100000 100000 Zw.p0 (Zw.d66.st 8 [[(ch 1001)]]) 3) 8 Zw.d180 [(10, 10), (11, 11), (12, 12), (13, 13), (14, 24)] [(ch 1000)] = some Zw.p0 := by kernel_rfl
noncomputable def Zw.t248 : List SE := ncL [⟨.len, (ch 1000), (.int .i64 0), (ch 1001)⟩,
  ⟨.bin .lss, (.int .i64 2), (ch 1001), (.bool false)⟩]
theorem Zw.i248 : Zw.d66.sub 8 [] (idl 8 Zw.d66.objs) (idA 1) (Zw.d66.st 8 []) = true := by kernel_rfl
theorem Zw.r248 : leafNext (fK (Tryz.Es Tryz.m4 (syOf Zw.t248)) 100000 100000 Zw.p0 (Zw.d66.st 8 []) 2) 8 Zw.d179 [(10, 10), (11, 11), (12, 12), (13, 13), (14, 20)] [(ch 1000)] = some Zw.p0 := by kernel_rfl
noncomputable def Zw.t252 : List SE := ncL [⟨.len, (ch 1000), (.int .i64 0), (ch 1002)⟩,
  ⟨.bin .lss, (.int .i64 2), (ch 1002), (.bool true)⟩,
  ⟨.idx 1, (ch 1000), (.int .i64 2), (.pointer (some ⟨8, 0, none⟩))⟩,
  ⟨.bin .rem, (ch 1001), (.int .i64 5), (ch 1003)⟩,
  ⟨.bin .add, (ch 1003), (.int .i64 5), (ch 1004)⟩,
  ⟨.bin .rem, (ch 1004), (.int .i64 5), (.int .i64 3)⟩]
theorem Zw.i252 : Zw.d67.sub 8 [[(ch 1001)]] (idl 8 Zw.d67.objs) (idA 1) (Zw.d67.st 8 []) = true := by kernel_rfl
theorem Zw.r252 : leafNext (fK (Tryz.Es Tryz.m4 (syOf Zw.t252)) 100000 100000 Zw.p0 (Zw.d67.st 8 [[(ch 1001)]]) 5) 8 Zw.d187 [(10, 10), (11, 11), (12, 12), (13, 13), (14, 35)] [(ch 1000)] = some Zw.p0 := by kernel_rfl
noncomputable def Zw.t256 : List SE := ncL [⟨.len, (ch 1000), (.int .i64 0), (ch 1002)⟩,
  ⟨.bin .lss, (.int .i64 2), (ch 1002), (.bool true)⟩,
  ⟨.idx 1, (ch 1000), (.int .i64 2), (.pointer (some ⟨8, 0, none⟩))⟩,
  ⟨.bin .rem, (ch 1001), (.int .i64 5), (ch 1003)⟩,
  ⟨.bin .add, (ch 1003), (.int .i64 5), (ch 1004)⟩,
  ⟨.bin .rem, (ch 1004), (.int .i64 5), (.int .i64 1)⟩]
theorem Zw.i256 : Zw.d68.sub 8 [[(ch 1001)]] (idl 8 Zw.d68.objs) (idA 1) (Zw.d68.st 8 []) = true := by kernel_rfl
theorem Zw.r256 : leafNext (fK (Tryz.Es Tryz.m4 (syOf Zw.t256)) 100000 100000 Zw.p0 (Zw.d68.st 8 [[(ch 1001)]]) 3) 8 Zw.d190 [(10, 10), (11, 11), (12, 12), (13, 13), (14, 24)] [(ch 1000)] = some Zw.p0 := by kernel_rfl
noncomputable def Zw.t260 : List SE := ncL [⟨.len, (ch 1000), (.int .i64 0), (ch 1001)⟩,
  ⟨.bin .lss, (.int .i64 2), (ch 1001), (.bool false)⟩]
theorem Zw.i260 : Zw.d68.sub 8 [] (idl 8 Zw.d68.objs) (idA 1) (Zw.d68.st 8 []) = true := by kernel_rfl
theorem Zw.r260 : leafNext (fK (Tryz.Es Tryz.m4 (syOf Zw.t260)) 100000 100000 Zw.p0 (Zw.d68.st 8 []) 2) 8 Zw.d189 [(10, 10), (11, 11), (12, 12), (13, 13), (14, 20)] [(ch 1000)] = some Zw.p0 := by kernel_rfl
noncomputable def Zw.t264 : List SE := ncL []
theorem Zw.i264 : Zw.d72.sub 8 [] (idl 8 Zw.d72.objs) (idA 1) (Zw.d72.st 8 []) = true := by kernel_rfl
theorem Zw.r264 : leafFin (Tryz.Es Tryz.m4 (syOf Zw.t264)) Tryz.f6 (fK (Tryz.Es Tryz.m4 (syOf Zw.t264)) 100000 100000 Zw.p0 (Zw.d72.st 8 []) 9) = true := by kernel_rfl
noncomputable def Zw.t268 : List SE := ncL []
theorem Zw.i268 : Zw.d76.sub 8 [] (idl 8 Zw.d76.objs) (idA 1) (Zw.d76.st 8 []) = true := by kernel_rfl
theorem Zw.r268 : leafFin (Tryz.Es Tryz.m4 (syOf Zw.t268)) Tryz.f6 (fK (Tryz.Es Tryz.m4 (syOf Zw.t268)) 100000 100000 Zw.p0 (Zw.d76.st 8 []) 9) = true := by kernel_rfl
noncomputable def Zw.t272 : List SE := ncL []
theorem Zw.i272 : Zw.d80.sub 8 [] (idl 8 Zw.d80.objs) (idA 1) (Zw.d80.st 8 []) = true := by kernel_rfl
theorem Zw.r272 : leafFin (Tryz.Es Tryz.m4 (syOf Zw.t272)) Tryz.f6 (fK (Tryz.Es Tryz.m4 (syOf Zw.t272)) 100000 100000 Zw.p0 (Zw.d80.st 8 []) 9) = true := by kernel_rfl
noncomputable def Zw.t276 : List SE := ncL []
theorem Zw.i276 : Zw.d84.sub 8 [] (idl 8 Zw.d84.objs) (idA 1) (Zw.d84.st 8 []) = true := by kernel_rfl
theorem Zw.r276 : leafFin (Tryz.Es Tryz.m4 (syOf Zw.t276)) Tryz.f6 (fK (Tryz.Es Tryz.m4 (syOf Zw.t276)) 100000 100000 Zw.p0 (Zw.d84.st 8 []) 9) = true := by kernel_rfl
noncomputable def Zw.t280 : List SE := ncL []
theorem Zw.i280 : Zw.d88.sub 8 [] (idl 8 Zw.d88.objs) (idA 1) (Zw.d88.st 8 []) = true := by kernel_rfl
theorem Zw.r280 : leafFin (Tryz.Es Tryz.m4 (syOf Zw.t280)) Tryz.f6 (fK (Tryz.Es Tryz.m4 (syOf Zw.t280)) 100000 100000 Zw.p0 (Zw.d88.st 8 []) 13) = true := by kernel_rfl
noncomputable def Zw.t284 : List SE := ncL []
theorem Zw.i284 : Zw.d92.sub 8 [] (idl 8 Zw.d92.objs) (idA 1) (Zw.d92.st 8 []) = true := by kernel_rfl
theorem Zw.r284 : leafFin (Tryz.Es Tryz.m4 (syOf Zw.t284)) Tryz.f6 (fK (Tryz.Es Tryz.m4 (syOf Zw.t284)) 100000 100000 Zw.p0 (Zw.d92.st 8 []) 13) = true := by kernel_rfl
noncomputable def Zw.t288 : List SE := ncL []
theorem Zw.i288 : Zw.d96.sub 8 [] (idl 8 Zw.d96.objs) (idA 1) (Zw.d96.st 8 []) = true := by kernel_rfl
theorem Zw.r288 : leafFin (Tryz.Es Tryz.m4 (syOf Zw.t288)) Tryz.f6 (fK (Tryz.Es Tryz.m4 (syOf Zw.t288)) 100000 100000 Zw.p0 (Zw.d96.st 8 []) 9) = true := by kernel_rfl
noncomputable def Zw.t292 : List SE := ncL []
theorem Zw.i292 : Zw.d100.sub 8 [] (idl 8 Zw.d100.objs) (idA 1) (Zw.d100.st 8 []) = true := by kernel_rfl
theorem Zw.r292 : leafFin (Tryz.Es Tryz.m4 (syOf Zw.t292)) Tryz.f6 (fK (Tryz.Es Tryz.m4 (syOf Zw.t292)) 100000 100000 Zw.p0 (Zw.d100.st 8 []) 9) = true := by kernel_rfl
noncomputable def Zw.t296 : List SE := ncL []
theorem Zw.i296 : Zw.d104.sub 8 [] (idl 8 Zw.d104.objs) (idA 1) (Zw.d104.st 8 []) = true := by kernel_rfl
theorem Zw.r296 : leafFin (Tryz.Es Tryz.m4 (syOf Zw.t296)) Tryz.f6 (fK (Tryz.Es Tryz.m4 (syOf Zw.t296)) 100000 100000 Zw.p0 (Zw.d104.st 8 []) 9) = true := by kernel_rfl
noncomputable def Zw.t300 : List SE := ncL []
theorem Zw.i300 : Zw.d108.sub 8 [] (idl 8 Zw.d108.objs) (idA 1) (Zw.d108.st 8 []) = true := by kernel_rfl
theorem Zw.r300 : leafFin (Tryz.Es Tryz.m4 (syOf Zw.t300)) Tryz.f6 (fK (Tryz.Es Tryz.m4 (syOf Zw.t300)) 100000 100000 Zw.p0 (Zw.d108.st 8 []) 13) = true := by kernel_rfl
noncomputable def Zw.t304 : List SE := ncL []
theorem Zw.i304 : Zw.d112.sub 8 [] (idl 8 Zw.d112.objs) (idA 1) (Zw.d112.st 8 []) = true := by kernel_rfl
theorem Zw.r304 : leafFin (Tryz.Es Tryz.m4 (syOf Zw.t304)) Tryz.f6 (fK (Tryz.Es Tryz.m4 (syOf Zw.t304)) 100000 100000 Zw.p0 (Zw.d112.st 8 []) 13) = true := by kernel_rfl
noncomputable def Zw.t308 : List SE := ncL []
theorem Zw.i308 : Zw.d116.sub 8 [] (idl 8 Zw.d116.objs) (idA 1) (Zw.d116.st 8 []) = true := by kernel_rfl
theorem Zw.r308 : leafFin (Tryz.Es Tryz.m4 (syOf Zw.t308)) Tryz.f6 (fK (Tryz.Es Tryz.m4 (syOf Zw.t308)) 100000 100000 Zw.p0 (Zw.d116.st 8 []) 13) = true := by kernel_rfl
noncomputable def Zw.t312 : List SE := ncL []
theorem Zw.i312 : Zw.d120.sub 8 [] (idl 8 Zw.d120.objs) (idA 1) (Zw.d120.st 8 []) = true := by kernel_rfl
theorem Zw.r312 : leafFin (Tryz.Es Tryz.m4 (syOf Zw.t312)) Tryz.f6 (fK (Tryz.Es Tryz.m4 (syOf Zw.t312)) 100000 100000 Zw.p0 (Zw.d120.st 8 []) 9) = true := by kernel_rfl
noncomputable def Zw.t316 : List SE := ncL []
theorem Zw.i316 : Zw.d124.sub 8 [] (idl 8 Zw.d124.objs) (idA 1) (Zw.d124.st 8 []) = true := by kernel_rfl
theorem Zw.r316 : leafFin (Tryz.Es Tryz.m4 (syOf Zw.t316)) Tryz.f6 (fK (Tryz.Es Tryz.m4 (syOf Zw.t316)) 100000 100000 Zw.p0 (Zw.d124.st 8 []) 9) = true := by kernel_rfl
noncomputable def Zw.t320 : List SE := ncL []
theorem Zw.i320 : Zw.d128.sub 8 [] (idl 8 Zw.d128.objs) (idA 1) (Zw.d128.st 8 []) = true := by kernel_rfl
theorem Zw.r320 : leafFin (Tryz.Es Tryz.m4 (syOf Zw.t320)) Tryz.f6 (fK (Tryz.Es Tryz.m4 (syOf Zw.t320)) 100000 100000 Zw.p0 (Zw.d128.st 8 []) 13) = true := by kernel_rfl
noncomputable def Zw.t324 : List SE := ncL []
theorem Zw.i324 : Zw.d132.sub 8 [] (idl 8 Zw.d132.objs) (idA 1) (Zw.d132.st 8 []) = true := by kernel_rfl
theorem Zw.r324 : leafFin (Tryz.Es Tryz.m4 (syOf Zw.t324)) Tryz.f6 (fK (Tryz.Es Tryz.m4 (syOf Zw.t324)) 100000 100000 Zw.p0 (Zw.d132.st 8 []) 13) = true := by kernel_rfl
noncomputable def Zw.t328 : List SE := ncL []
theorem Zw.i328 : Zw.d136.sub 8 [] (idl 8 Zw.d136.objs) (idA 1) (Zw.d136.st 8 []) = true := by kernel_rfl
theorem Zw.r328 : leafFin (Tryz.Es Tryz.m4 (syOf Zw.t328)) Tryz.f6 (fK (Tryz.Es Tryz.m4 (syOf Zw.t328)) 100000 100000 Zw.p0 (Zw.d136.st 8 []) 13) = true := by kernel_rfl
noncomputable def Zw.t332 : List SE := ncL []
theorem Zw.i332 : Zw.d140.sub 8 [] (idl 8 Zw.d140.objs) (idA 1) (Zw.d140.st 8 []) = true := by kernel_rfl
theorem Zw.r332 : leafFin (Tryz.Es Tryz.m4 (syOf Zw.t332)) Tryz.f6 (fK (Tryz.Es Tryz.m4 (syOf Zw.t332)) 100000 100000 Zw.p0 (Zw.d140.st 8 []) 13) = true := by kernel_rfl
noncomputable def Zw.t336 : List SE := ncL []
theorem Zw.i336 : Zw.d144.sub 8 [] (idl 8 Zw.d144.objs) (idA 1) (Zw.d144.st 8 []) = true := by kernel_rfl
theorem Zw.r336 : leafFin (Tryz.Es Tryz.m4 (syOf Zw.t336)) Tryz.f6 (fK (Tryz.Es Tryz.m4 (syOf Zw.t336)) 100000 100000 Zw.p0 (Zw.d144.st 8 []) 9) = true := by kernel_rfl
noncomputable def Zw.t340 : List SE := ncL []
theorem Zw.i340 : Zw.d148.sub 8 [] (idl 8 Zw.d148.objs) (idA 1) (Zw.d148.st 8 []) = true := by kernel_rfl
theorem Zw.r340 : leafFin (Tryz.Es Tryz.m4 (syOf Zw.t340)) Tryz.f6 (fK (Tryz.Es Tryz.m4 (syOf Zw.t340)) 100000 100000 Zw.p0 (Zw.d148.st 8 []) 13) = true := by kernel_rfl
noncomputable def Zw.t344 : List SE := ncL []
theorem Zw.i344 : Zw.d152.sub 8 [] (idl 8 Zw.d152.objs) (idA 1) (Zw.d152.st 8 []) = true := by kernel_rfl
theorem Zw.r344 : leafFin (Tryz.Es Tryz.m4 (syOf Zw.t344)) Tryz.f6 (fK (Tryz.Es Tryz.m4 (syOf Zw.t344)) 100000 100000 Zw.p0 (Zw.d152.st 8 []) 13) = true := by kernel_rfl
noncomputable def Zw.t348 : List SE := ncL []
theorem Zw.i348 : Zw.d156.sub 8 [] (idl 8 Zw.d156.objs) (idA 1) (Zw.d156.st 8 []) = true := by kernel_rfl
theorem Zw.r348 : leafFin (Tryz.Es Tryz.m4 (syOf Zw.t348)) Tryz.f6 (fK (Tryz.Es Tryz.m4 (syOf Zw.t348)) 100000 100000 Zw.p0 (Zw.d156.st 8 []) 13) = true := by kernel_rfl
noncomputable def Zw.t352 : List SE := ncL []
theorem Zw.i352 : Zw.d160.sub 8 [] (idl 8 Zw.d160.objs) (idA 1) (Zw.d160.st 8 []) = true := by kernel_rfl
theorem Zw.r352 : leafFin (Tryz.Es Tryz.m4 (syOf Zw.t352)) Tryz.f6 (fK (Tryz.Es Tryz.m4 (syOf Zw.t352)) 100000 100000 Zw.p0 (Zw.d160.st 8 []) 13) = true := by kernel_rfl
noncomputable def Zw.t356 : List SE := ncL []
theorem Zw.i356 : Zw.d164.sub 8 [] (idl 8 Zw.d164.objs) (idA 1) (Zw.d164.st 8 []) = true := by kernel_rfl
theorem Zw.r356 : leafFin (Tryz.Es Tryz.m4 (syOf Zw.t356)) Tryz.f6 (fK (Tryz.Es Tryz.m4 (syOf Zw.t356)) 100000 100000 Zw.p0 (Zw.d164.st 8 []) 13) = true := by kernel_rfl
noncomputable def Zw.t360 : List SE := ncL []
theorem Zw.i360 : Zw.d168.sub 8 [] (idl 8 Zw.d168.objs) (idA 1) (Zw.d168.st 8 []) = true := by kernel_rfl
theorem Zw.r360 : leafFin (Tryz.Es Tryz.m4 (syOf Zw.t360)) Tryz.f6 (fK (Tryz.Es Tryz.m4 (syOf Zw.t360)) 100000 100000 Zw.p0 (Zw.d168.st 8 []) 17) = true := by kernel_rfl
noncomputable def Zw.t364 : List SE := ncL []
theorem Zw.i364 : Zw.d172.sub 8 [] (idl 8 Zw.d172.objs) (idA 1) (Zw.d172.st 8 []) = true := by kernel_rfl
theorem Zw.r364 : leafFin (Tryz.Es Tryz.m4 (syOf Zw.t364)) Tryz.f6 (fK (Tryz.Es Tryz.m4 (syOf Zw.t364)) 100000 100000 Zw.p0 (Zw.d172.st 8 []) 13) = true := by kernel_rfl
noncomputable def Zw.t368 : List SE := ncL []
theorem Zw.i368 : Zw.d176.sub 8 [] (idl 8 Zw.d176.objs) (idA 1) (Zw.d176.st 8 []) = true := by kernel_rfl
theorem Zw.r368 : leafFin (Tryz.Es Tryz.m4 (syOf Zw.t368)) Tryz.f6 (fK (Tryz.Es Tryz.m4 (syOf Zw.t368)) 100000 100000 Zw.p0 (Zw.d176.st 8 []) 13) = true := by kernel_rfl
noncomputable def Zw.t372 : List SE := ncL []
theorem Zw.i372 : Zw.d180.sub 8 [] (idl 8 Zw.d180.objs) (idA 1) (Zw.d180.st 8 []) = true := by kernel_rfl
theorem Zw.r372 : leafFin (Tryz.Es Tryz.m4 (syOf Zw.t372)) Tryz.f6 (fK (Tryz.Es Tryz.m4 (syOf Zw.t372)) 100000 100000 Zw.p0 (Zw.d180.st 8 []) 13) = true := by kernel_rfl
noncomputable def Zw.t376 : List SE := ncL []
theorem Zw.i376 : Zw.d184.sub 8 [] (idl 8 Zw.d184.objs) (idA 1) (Zw.d184.st 8 []) = true := by kernel_rfl
theorem Zw.r376 : leafFin (Tryz.Es Tryz.m4 (syOf Zw.t376)) Tryz.f6 (fK (Tryz.Es Tryz.m4 (syOf Zw.t376)) 100000 100000 Zw.p0 (Zw.d184.st 8 []) 13) = true := by kernel_rfl
noncomputable def Zw.t380 : List SE := ncL []
theorem Zw.i380 : Zw.d188.sub 8 [] (idl 8 Zw.d188.objs) (idA 1) (Zw.d188.st 8 []) = true := by kernel_rfl
theorem Zw.r380 : leafFin (Tryz.Es Tryz.m4 (syOf Zw.t380)) Tryz.f6 (fK (Tryz.Es Tryz.m4 (syOf Zw.t380)) 100000 100000 Zw.p0 (Zw.d188.st 8 []) 17) = true := by kernel_rfl
noncomputable def Zw.t384 : List SE := ncL []
theorem Zw.i384 : Zw.d192.sub 8 [] (idl 8 Zw.d192.objs) (idA 1) (Zw.d192.st 8 []) = true := by kernel_rfl
theorem Zw.r384 : leafFin (Tryz.Es Tryz.m4 (syOf Zw.t384)) Tryz.f6 (fK (Tryz.Es Tryz.m4 (syOf Zw.t384)) 100000 100000 Zw.p0 (Zw.d192.st 8 []) 17) = true := by kernel_rfl
end
end Go.Proofs
