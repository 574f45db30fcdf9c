/- Pieces of the law's run, from node to node, answered by the executor. No conditions. -/
import Derived.Test.YtjmfbhlanjhnfaaGreatDoorVSeatPipeAlignNd
set_option linter.all false
namespace Go.Proofs
open Go Go.Vsx
set_option maxRecDepth 1000000
noncomputable section
noncomputable def Zw.t2 : List SE := ncL [⟨.bin .rem, (ch 1000), (.int .i64 3), (ch 1002)⟩,
  ⟨.bin .add, (ch 1002), (.int .i64 3), (ch 1003)⟩,
  ⟨.bin .rem, (ch 1003), (.int .i64 3), (.int .i64 2)⟩]
theorem Zw.i2 : Zw.d0.sub 8 [] (idl 8 Zw.d0.objs) (idA 2) (Zw.d0.st 8 []) = true := by kernel_rfl
theorem Zw.r2 : leafNext (fK (Tryz.Es Tryz.m4 (syOf Zw.t2)) 100000 100000 Zw.pS (Zw.d0.st 8 []) 0) 8 Zw.d3 [(10, 11), (11, 10)] [(ch 1001)] = some Zw.p0 := by kernel_rfl
noncomputable def Zw.t6 : List SE := ncL [⟨.len, (ch 1000), (.int .i64 0), (ch 1002)⟩,
  ⟨.bin .lss, (.int .i64 0), (ch 1002), (.bool true)⟩,
  ⟨.idx 1, (ch 1000), (.int .i64 0), (.pointer (some ⟨8, 0, none⟩))⟩,
  ⟨.bin .rem, (ch 1001), (.int .i64 5), (ch 1003)⟩,
  ⟨.bin .add, (ch 1003), (.int .i64 5), (ch 1004)⟩,
  ⟨.bin .rem, (ch 1004), (.int .i64 5), (.int .i64 3)⟩]
theorem Zw.i6 : Zw.d1.sub 8 [[(ch 1001)]] (idl 8 Zw.d1.objs) (idA 1) (Zw.d1.st 8 []) = true := by kernel_rfl
theorem Zw.r6 : leafNext (fK (Tryz.Es Tryz.m4 (syOf Zw.t6)) 100000 100000 Zw.p0 (Zw.d1.st 8 [[(ch 1001)]]) 5) 8 Zw.d7 [(10, 10), (11, 11), (12, 33)] [(ch 1000)] = some Zw.p0 := by kernel_rfl
noncomputable def Zw.t10 : List SE := ncL [⟨.len, (ch 1000), (.int .i64 0), (ch 1002)⟩,
  ⟨.bin .lss, (.int .i64 0), (ch 1002), (.bool true)⟩,
  ⟨.idx 1, (ch 1000), (.int .i64 0), (.pointer (some ⟨8, 0, none⟩))⟩,
  ⟨.bin .rem, (ch 1001), (.int .i64 5), (ch 1003)⟩,
  ⟨.bin .add, (ch 1003), (.int .i64 5), (ch 1004)⟩,
  ⟨.bin .rem, (ch 1004), (.int .i64 5), (.int .i64 1)⟩]
theorem Zw.i10 : Zw.d2.sub 8 [[(ch 1001)]] (idl 8 Zw.d2.objs) (idA 1) (Zw.d2.st 8 []) = true := by kernel_rfl
theorem Zw.r10 : leafNext (fK (Tryz.Es Tryz.m4 (syOf Zw.t10)) 100000 100000 Zw.p0 (Zw.d2.st 8 [[(ch 1001)]]) 3) 8 Zw.d10 [(10, 10), (11, 11), (12, 22)] [(ch 1000)] = some Zw.p0 := by kernel_rfl
noncomputable def Zw.t14 : List SE := ncL [⟨.len, (ch 1000), (.int .i64 0), (ch 1001)⟩,
  ⟨.bin .lss, (.int .i64 0), (ch 1001), (.bool false)⟩]
theorem Zw.i14 : Zw.d2.sub 8 [] (idl 8 Zw.d2.objs) (idA 1) (Zw.d2.st 8 []) = true := by kernel_rfl
theorem Zw.r14 : leafNext (fK (Tryz.Es Tryz.m4 (syOf Zw.t14)) 100000 100000 Zw.p0 (Zw.d2.st 8 []) 2) 8 Zw.d9 [(10, 10), (11, 11), (12, 18)] [(ch 1000)] = some Zw.p0 := by kernel_rfl
noncomputable def Zw.t18 : List SE := ncL [⟨.len, (ch 1000), (.int .i64 0), (ch 1002)⟩,
  ⟨.bin .lss, (.int .i64 0), (ch 1002), (.bool true)⟩,
  ⟨.idx 1, (ch 1000), (.int .i64 0), (.pointer (some ⟨8, 0, none⟩))⟩,
  ⟨.bin .rem, (ch 1001), (.int .i64 5), (ch 1003)⟩,
  ⟨.bin .add, (ch 1003), (.int .i64 5), (ch 1004)⟩,
  ⟨.bin .rem, (ch 1004), (.int .i64 5), (.int .i64 3)⟩]
theorem Zw.i18 : Zw.d3.sub 8 [[(ch 1001)]] (idl 8 Zw.d3.objs) (idA 1) (Zw.d3.st 8 []) = true := by kernel_rfl
theorem Zw.r18 : leafNext (fK (Tryz.Es Tryz.m4 (syOf Zw.t18)) 100000 100000 Zw.p0 (Zw.d3.st 8 [[(ch 1001)]]) 5) 8 Zw.d17 [(10, 10), (11, 11), (12, 33)] [(ch 1000)] = some Zw.p0 := by kernel_rfl
noncomputable def Zw.t22 : List SE := ncL []
theorem Zw.i22 : Zw.d5.sub 8 [] (idl 8 Zw.d5.objs) (idA 1) (Zw.d5.st 8 []) = true := by kernel_rfl
theorem Zw.r22 : leafFin (Tryz.Es Tryz.m4 (syOf Zw.t22)) Tryz.f6 (fK (Tryz.Es Tryz.m4 (syOf Zw.t22)) 100000 100000 Zw.p0 (Zw.d5.st 8 []) 5) = true := by kernel_rfl
noncomputable def Zw.t26 : List SE := ncL [⟨.len, (ch 1000), (.int .i64 0), (ch 1002)⟩,
  ⟨.bin .lss, (.int .i64 1), (ch 1002), (.bool true)⟩,
  ⟨.idx 1, (ch 1000), (.int .i64 1), (.pointer (some ⟨8, 0, none⟩))⟩,
  ⟨.bin .rem, (ch 1001), (.int .i64 5), (ch 1003)⟩,
  ⟨.bin .add, (ch 1003), (.int .i64 5), (ch 1004)⟩,
  ⟨.bin .rem, (ch 1004), (.int .i64 5), (.int .i64 0)⟩]
theorem Zw.i26 : Zw.d9.sub 8 [[(ch 1001)]] (idl 8 Zw.d9.objs) (idA 1) (Zw.d9.st 8 []) = true := by kernel_rfl
theorem Zw.r26 : leafNext (fK (Tryz.Es Tryz.m4 (syOf Zw.t26)) 100000 100000 Zw.p0 (Zw.d9.st 8 [[(ch 1001)]]) 2) 8 Zw.d19 [(10, 10), (11, 11), (12, 12), (13, 19)] [(ch 1000)] = some Zw.p0 := by kernel_rfl
noncomputable def Zw.t30 : List SE := ncL [⟨.len, (ch 1000), (.int .i64 0), (ch 1002)⟩,
  ⟨.bin .lss, (.int .i64 1), (ch 1002), (.bool true)⟩,
  ⟨.idx 1, (ch 1000), (.int .i64 1), (.pointer (some ⟨8, 0, none⟩))⟩,
  ⟨.bin .rem, (ch 1001), (.int .i64 5), (ch 1003)⟩,
  ⟨.bin .add, (ch 1003), (.int .i64 5), (ch 1004)⟩,
  ⟨.bin .rem, (ch 1004), (.int .i64 5), (.int .i64 4)⟩]
theorem Zw.i30 : Zw.d9.sub 8 [[(ch 1001)]] (idl 8 Zw.d9.objs) (idA 1) (Zw.d9.st 8 []) = true := by kernel_rfl
theorem Zw.r30 : leafNext (fK (Tryz.Es Tryz.m4 (syOf Zw.t30)) 100000 100000 Zw.p0 (Zw.d9.st 8 [[(ch 1001)]]) 6) 8 Zw.d23 [(10, 10), (11, 11), (12, 12), (13, 41)] [(ch 1000)] = some Zw.p0 := by kernel_rfl
noncomputable def Zw.t34 : List SE := ncL [⟨.len, (ch 1000), (.int .i64 0), (ch 1002)⟩,
  ⟨.bin .lss, (.int .i64 1), (ch 1002), (.bool true)⟩,
  ⟨.idx 1, (ch 1000), (.int .i64 1), (.pointer (some ⟨8, 0, none⟩))⟩,
  ⟨.bin .rem, (ch 1001), (.int .i64 5), (ch 1003)⟩,
  ⟨.bin .add, (ch 1003), (.int .i64 5), (ch 1004)⟩,
  ⟨.bin .rem, (ch 1004), (.int .i64 5), (.int .i64 2)⟩]
theorem Zw.i34 : Zw.d10.sub 8 [[(ch 1001)]] (idl 8 Zw.d10.objs) (idA 1) (Zw.d10.st 8 []) = true := by kernel_rfl
theorem Zw.r34 : leafNext (fK (Tryz.Es Tryz.m4 (syOf Zw.t34)) 100000 100000 Zw.p0 (Zw.d10.st 8 [[(ch 1001)]]) 4) 8 Zw.d26 [(10, 10), (11, 11), (12, 12), (13, 28)] [(ch 1000)] = some Zw.p0 := by kernel_rfl
noncomputable def Zw.t38 : List SE := ncL [⟨.len, (ch 1000), (.int .i64 0), (ch 1002)⟩,
  ⟨.bin .lss, (.int .i64 1), (ch 1002), (.bool true)⟩,
  ⟨.idx 1, (ch 1000), (.int .i64 1), (.pointer (some ⟨8, 0, none⟩))⟩,
  ⟨.bin .rem, (ch 1001), (.int .i64 5), (ch 1003)⟩,
  ⟨.bin .add, (ch 1003), (.int .i64 5), (ch 1004)⟩,
  ⟨.bin .rem, (ch 1004), (.int .i64 5), (.int .i64 0)⟩]
theorem Zw.i38 : Zw.d11.sub 8 [[(ch 1001)]] (idl 8 Zw.d11.objs) (idA 1) (Zw.d11.st 8 []) = true := by kernel_rfl
theorem Zw.r38 : leafNext (fK (Tryz.Es Tryz.m4 (syOf Zw.t38)) 100000 100000 Zw.p0 (Zw.d11.st 8 [[(ch 1001)]]) 2) 8 Zw.d29 [(10, 10), (11, 11), (12, 12), (13, 19)] [(ch 1000)] = some Zw.p0 := by kernel_rfl
noncomputable def Zw.t42 : List SE := ncL [⟨.len, (ch 1000), (.int .i64 0), (ch 1002)⟩,
  ⟨.bin .lss, (.int .i64 1), (ch 1002), (.bool true)⟩,
  ⟨.idx 1, (ch 1000), (.int .i64 1), (.pointer (some ⟨8, 0, none⟩))⟩,
  ⟨.bin .rem, (ch 1001), (.int .i64 5), (ch 1003)⟩,
  ⟨.bin .add, (ch 1003), (.int .i64 5), (ch 1004)⟩,
  ⟨.bin .rem, (ch 1004), (.int .i64 5), (.int .i64 4)⟩]
theorem Zw.i42 : Zw.d11.sub 8 [[(ch 1001)]] (idl 8 Zw.d11.objs) (idA 1) (Zw.d11.st 8 []) = true := by kernel_rfl
theorem Zw.r42 : leafNext (fK (Tryz.Es Tryz.m4 (syOf Zw.t42)) 100000 100000 Zw.p0 (Zw.d11.st 8 [[(ch 1001)]]) 6) 8 Zw.d33 [(10, 10), (11, 11), (12, 12), (13, 41)] [(ch 1000)] = some Zw.p0 := by kernel_rfl
noncomputable def Zw.t46 : List SE := ncL [⟨.len, (ch 1000), (.int .i64 0), (ch 1002)⟩,
  ⟨.bin .lss, (.int .i64 1), (ch 1002), (.bool true)⟩,
  ⟨.idx 1, (ch 1000), (.int .i64 1), (.pointer (some ⟨8, 0, none⟩))⟩,
  ⟨.bin .rem, (ch 1001), (.int .i64 5), (ch 1003)⟩,
  ⟨.bin .add, (ch 1003), (.int .i64 5), (ch 1004)⟩,
  ⟨.bin .rem, (ch 1004), (.int .i64 5), (.int .i64 2)⟩]
theorem Zw.i46 : Zw.d12.sub 8 [[(ch 1001)]] (idl 8 Zw.d12.objs) (idA 1) (Zw.d12.st 8 []) = true := by kernel_rfl
theorem Zw.r46 : leafNext (fK (Tryz.Es Tryz.m4 (syOf Zw.t46)) 100000 100000 Zw.p0 (Zw.d12.st 8 [[(ch 1001)]]) 4) 8 Zw.d36 [(10, 10), (11, 11), (12, 12), (13, 28)] [(ch 1000)] = some Zw.p0 := by kernel_rfl
noncomputable def Zw.t50 : List SE := ncL [⟨.len, (ch 1000), (.int .i64 0), (ch 1002)⟩,
  ⟨.bin .lss, (.int .i64 1), (ch 1002), (.bool true)⟩,
  ⟨.idx 1, (ch 1000), (.int .i64 1), (.pointer (some ⟨8, 0, none⟩))⟩,
  ⟨.bin .rem, (ch 1001), (.int .i64 5), (ch 1003)⟩,
  ⟨.bin .add, (ch 1003), (.int .i64 5), (ch 1004)⟩,
  ⟨.bin .rem, (ch 1004), (.int .i64 5), (.int .i64 0)⟩]
theorem Zw.i50 : Zw.d13.sub 8 [[(ch 1001)]] (idl 8 Zw.d13.objs) (idA 1) (Zw.d13.st 8 []) = true := by kernel_rfl
theorem Zw.r50 : leafNext (fK (Tryz.Es Tryz.m4 (syOf Zw.t50)) 100000 100000 Zw.p0 (Zw.d13.st 8 [[(ch 1001)]]) 2) 8 Zw.d39 [(10, 10), (11, 11), (12, 12), (13, 19)] [(ch 1000)] = some Zw.p0 := by kernel_rfl
noncomputable def Zw.t54 : List SE := ncL [⟨.len, (ch 1000), (.int .i64 0), (ch 1002)⟩,
  ⟨.bin .lss, (.int .i64 1), (ch 1002), (.bool true)⟩,
  ⟨.idx 1, (ch 1000), (.int .i64 1), (.pointer (some ⟨8, 0, none⟩))⟩,
  ⟨.bin .rem, (ch 1001), (.int .i64 5), (ch 1003)⟩,
  ⟨.bin .add, (ch 1003), (.int .i64 5), (ch 1004)⟩,
  ⟨.bin .rem, (ch 1004), (.int .i64 5), (.int .i64 4)⟩]
theorem Zw.i54 : Zw.d13.sub 8 [[(ch 1001)]] (idl 8 Zw.d13.objs) (idA 1) (Zw.d13.st 8 []) = true := by kernel_rfl
theorem Zw.r54 : leafNext (fK (Tryz.Es Tryz.m4 (syOf Zw.t54)) 100000 100000 Zw.p0 (Zw.d13.st 8 [[(ch 1001)]]) 6) 8 Zw.d43 [(10, 10), (11, 11), (12, 12), (13, 41)] [(ch 1000)] = some Zw.p0 := by kernel_rfl
noncomputable def Zw.t58 : List SE := ncL [⟨.len, (ch 1000), (.int .i64 0), (ch 1002)⟩,
  ⟨.bin .lss, (.int .i64 1), (ch 1002), (.bool true)⟩,
  ⟨.idx 1, (ch 1000), (.int .i64 1), (.pointer (some ⟨8, 0, none⟩))⟩,
  ⟨.bin .rem, (ch 1001), (.int .i64 5), (ch 1003)⟩,
  ⟨.bin .add, (ch 1003), (.int .i64 5), (ch 1004)⟩,
  ⟨.bin .rem, (ch 1004), (.int .i64 5), (.int .i64 2)⟩]
theorem Zw.i58 : Zw.d14.sub 8 [[(ch 1001)]] (idl 8 Zw.d14.objs) (idA 1) (Zw.d14.st 8 []) = true := by kernel_rfl
theorem Zw.r58 : leafNext (fK (Tryz.Es Tryz.m4 (syOf Zw.t58)) 100000 100000 Zw.p0 (Zw.d14.st 8 [[(ch 1001)]]) 4) 8 Zw.d46 [(10, 10), (11, 11), (12, 12), (13, 28)] [(ch 1000)] = some Zw.p0 := by kernel_rfl
noncomputable def Zw.t62 : List SE := ncL [⟨.len, (ch 1000), (.int .i64 0), (ch 1002)⟩,
  ⟨.bin .lss, (.int .i64 1), (ch 1002), (.bool true)⟩,
  ⟨.idx 1, (ch 1000), (.int .i64 1), (.pointer (some ⟨8, 0, none⟩))⟩,
  ⟨.bin .rem, (ch 1001), (.int .i64 5), (ch 1003)⟩,
  ⟨.bin .add, (ch 1003), (.int .i64 5), (ch 1004)⟩,
  ⟨.bin .rem, (ch 1004), (.int .i64 5), (.int .i64 0)⟩]
theorem Zw.i62 : Zw.d15.sub 8 [[(ch 1001)]] (idl 8 Zw.d15.objs) (idA 1) (Zw.d15.st 8 []) = true := by kernel_rfl
theorem Zw.r62 : leafNext (fK (Tryz.Es Tryz.m4 (syOf Zw.t62)) 100000 100000 Zw.p0 (Zw.d15.st 8 [[(ch 1001)]]) 2) 8 Zw.d49 [(10, 10), (11, 11), (12, 12), (13, 19)] [(ch 1000)] = some Zw.p0 := by kernel_rfl
noncomputable def Zw.t66 : List SE := ncL [⟨.len, (ch 1000), (.int .i64 0), (ch 1002)⟩,
  ⟨.bin .lss, (.int .i64 1), (ch 1002), (.bool true)⟩,
  ⟨.idx 1, (ch 1000), (.int .i64 1), (.pointer (some ⟨8, 0, none⟩))⟩,
  ⟨.bin .rem, (ch 1001), (.int .i64 5), (ch 1003)⟩,
  ⟨.bin .add, (ch 1003), (.int .i64 5), (ch 1004)⟩,
  ⟨.bin .rem, (ch 1004), (.int .i64 5), (.int .i64 4)⟩]
theorem Zw.i66 : Zw.d15.sub 8 [[(ch 1001)]] (idl 8 Zw.d15.objs) (idA 1) (Zw.d15.st 8 []) = true := by kernel_rfl
theorem Zw.r66 : leafNext (fK (Tryz.Es Tryz.m4 (syOf Zw.t66)) 100000 100000 Zw.p0 (Zw.d15.st 8 [[(ch 1001)]]) 6) 8 Zw.d53 [(10, 10), (11, 11), (12, 12), (13, 41)] [(ch 1000)] = some Zw.p0 := by kernel_rfl
noncomputable def Zw.t70 : List SE := ncL [⟨.len, (ch 1000), (.int .i64 0), (ch 1002)⟩,
  ⟨.bin .lss, (.int .i64 1), (ch 1002), (.bool true)⟩,
  ⟨.idx 1, (ch 1000), (.int .i64 1), (.pointer (some ⟨8, 0, none⟩))⟩,
  ⟨.bin .rem, (ch 1001), (.int .i64 5), (ch 1003)⟩,
  ⟨.bin .add, (ch 1003), (.int .i64 5), (ch 1004)⟩,
  ⟨.bin .rem, (ch 1004), (.int .i64 5), (.int .i64 2)⟩]
theorem Zw.i70 : Zw.d16.sub 8 [[(ch 1001)]] (idl 8 Zw.d16.objs) (idA 1) (Zw.d16.st 8 []) = true := by kernel_rfl
theorem Zw.r70 : leafNext (fK (Tryz.Es Tryz.m4 (syOf Zw.t70)) 100000 100000 Zw.p0 (Zw.d16.st 8 [[(ch 1001)]]) 4) 8 Zw.d56 [(10, 10), (11, 11), (12, 12), (13, 28)] [(ch 1000)] = some Zw.p0 := by kernel_rfl
noncomputable def Zw.t74 : List SE := ncL [⟨.len, (ch 1000), (.int .i64 0), (ch 1002)⟩,
  ⟨.bin .lss, (.int .i64 1), (ch 1002), (.bool true)⟩,
  ⟨.idx 1, (ch 1000), (.int .i64 1), (.pointer (some ⟨8, 0, none⟩))⟩,
  ⟨.bin .rem, (ch 1001), (.int .i64 5), (ch 1003)⟩,
  ⟨.bin .add, (ch 1003), (.int .i64 5), (ch 1004)⟩,
  ⟨.bin .rem, (ch 1004), (.int .i64 5), (.int .i64 0)⟩]
theorem Zw.i74 : Zw.d17.sub 8 [[(ch 1001)]] (idl 8 Zw.d17.objs) (idA 1) (Zw.d17.st 8 []) = true := by kernel_rfl
theorem Zw.r74 : leafNext (fK (Tryz.Es Tryz.m4 (syOf Zw.t74)) 100000 100000 Zw.p0 (Zw.d17.st 8 [[(ch 1001)]]) 2) 8 Zw.d59 [(10, 10), (11, 11), (12, 12), (13, 19)] [(ch 1000)] = some Zw.p0 := by kernel_rfl
noncomputable def Zw.t78 : List SE := ncL [⟨.len, (ch 1000), (.int .i64 0), (ch 1002)⟩,
  ⟨.bin .lss, (.int .i64 1), (ch 1002), (.bool true)⟩,
  ⟨.idx 1, (ch 1000), (.int .i64 1), (.pointer (some ⟨8, 0, none⟩))⟩,
  ⟨.bin .rem, (ch 1001), (.int .i64 5), (ch 1003)⟩,
  ⟨.bin .add, (ch 1003), (.int .i64 5), (ch 1004)⟩,
  ⟨.bin .rem, (ch 1004), (.int .i64 5), (.int .i64 4)⟩]
theorem Zw.i78 : Zw.d17.sub 8 [[(ch 1001)]] (idl 8 Zw.d17.objs) (idA 1) (Zw.d17.st 8 []) = true := by kernel_rfl
theorem Zw.r78 : leafNext (fK (Tryz.Es Tryz.m4 (syOf Zw.t78)) 100000 100000 Zw.p0 (Zw.d17.st 8 [[(ch 1001)]]) 6) 8 Zw.d63 [(10, 10), (11, 11), (12, 12), (13, 41)] [(ch 1000)] = some Zw.p0 := by kernel_rfl
noncomputable def Zw.t82 : List SE := ncL [⟨.len, (ch 1000), (.int .i64 0), (ch 1002)⟩,
  ⟨.bin .lss, (.int .i64 1), (ch 1002), (.bool true)⟩,
  ⟨.idx 1, (ch 1000), (.int .i64 1), (.pointer (some ⟨8, 0, none⟩))⟩,
  ⟨.bin .rem, (ch 1001), (.int .i64 5), (ch 1003)⟩,
  ⟨.bin .add, (ch 1003), (.int .i64 5), (ch 1004)⟩,
  ⟨.bin .rem, (ch 1004), (.int .i64 5), (.int .i64 2)⟩]
theorem Zw.i82 : Zw.d18.sub 8 [[(ch 1001)]] (idl 8 Zw.d18.objs) (idA 1) (Zw.d18.st 8 []) = true := by kernel_rfl
theorem Zw.r82 : leafNext (fK (Tryz.Es Tryz.m4 (syOf Zw.t82)) 100000 100000 Zw.p0 (Zw.d18.st 8 [[(ch 1001)]]) 4) 8 Zw.d66 [(10, 10), (11, 11), (12, 12), (13, 28)] [(ch 1000)] = some Zw.p0 := by kernel_rfl
noncomputable def Zw.t86 : List SE := ncL []
theorem Zw.i86 : Zw.d19.sub 8 [] (idl 8 Zw.d19.objs) (idA 1) (Zw.d19.st 8 []) = true := by kernel_rfl
theorem Zw.r86 : leafFin (Tryz.Es Tryz.m4 (syOf Zw.t86)) Tryz.f6 (fK (Tryz.Es Tryz.m4 (syOf Zw.t86)) 100000 100000 Zw.p0 (Zw.d19.st 8 []) 5) = true := by kernel_rfl
noncomputable def Zw.t90 : List SE := ncL []
theorem Zw.i90 : Zw.d23.sub 8 [] (idl 8 Zw.d23.objs) (idA 1) (Zw.d23.st 8 []) = true := by kernel_rfl
theorem Zw.r90 : leafFin (Tryz.Es Tryz.m4 (syOf Zw.t90)) Tryz.f6 (fK (Tryz.Es Tryz.m4 (syOf Zw.t90)) 100000 100000 Zw.p0 (Zw.d23.st 8 []) 9) = true := by kernel_rfl
noncomputable def Zw.t94 : List SE := ncL []
theorem Zw.i94 : Zw.d27.sub 8 [] (idl 8 Zw.d27.objs) (idA 1) (Zw.d27.st 8 []) = true := by kernel_rfl
theorem Zw.r94 : leafFin (Tryz.Es Tryz.m4 (syOf Zw.t94)) Tryz.f6 (fK (Tryz.Es Tryz.m4 (syOf Zw.t94)) 100000 100000 Zw.p0 (Zw.d27.st 8 []) 9) = true := by kernel_rfl
noncomputable def Zw.t98 : List SE := ncL []
theorem Zw.i98 : Zw.d31.sub 8 [] (idl 8 Zw.d31.objs) (idA 1) (Zw.d31.st 8 []) = true := by kernel_rfl
theorem Zw.r98 : leafFin (Tryz.Es Tryz.m4 (syOf Zw.t98)) Tryz.f6 (fK (Tryz.Es Tryz.m4 (syOf Zw.t98)) 100000 100000 Zw.p0 (Zw.d31.st 8 []) 9) = true := by kernel_rfl
noncomputable def Zw.t102 : List SE := ncL []
theorem Zw.i102 : Zw.d35.sub 8 [] (idl 8 Zw.d35.objs) (idA 1) (Zw.d35.st 8 []) = true := by kernel_rfl
theorem Zw.r102 : leafFin (Tryz.Es Tryz.m4 (syOf Zw.t102)) Tryz.f6 (fK (Tryz.Es Tryz.m4 (syOf Zw.t102)) 100000 100000 Zw.p0 (Zw.d35.st 8 []) 9) = true := by kernel_rfl
noncomputable def Zw.t106 : List SE := ncL []
theorem Zw.i106 : Zw.d39.sub 8 [] (idl 8 Zw.d39.objs) (idA 1) (Zw.d39.st 8 []) = true := by kernel_rfl
theorem Zw.r106 : leafFin (Tryz.Es Tryz.m4 (syOf Zw.t106)) Tryz.f6 (fK (Tryz.Es Tryz.m4 (syOf Zw.t106)) 100000 100000 Zw.p0 (Zw.d39.st 8 []) 9) = true := by kernel_rfl
noncomputable def Zw.t110 : List SE := ncL []
theorem Zw.i110 : Zw.d43.sub 8 [] (idl 8 Zw.d43.objs) (idA 1) (Zw.d43.st 8 []) = true := by kernel_rfl
theorem Zw.r110 : leafFin (Tryz.Es Tryz.m4 (syOf Zw.t110)) Tryz.f6 (fK (Tryz.Es Tryz.m4 (syOf Zw.t110)) 100000 100000 Zw.p0 (Zw.d43.st 8 []) 13) = true := by kernel_rfl
noncomputable def Zw.t114 : List SE := ncL [⟨.len, (ch 1000), (.int .i64 0), (ch 1002)⟩,
  ⟨.bin .lss, (.int .i64 2), (ch 1002), (.bool true)⟩,
  ⟨.idx 1, (ch 1000), (.int .i64 2), (.pointer (some ⟨8, 0, none⟩))⟩,
  ⟨.bin .rem, (ch 1001), (.int .i64 5), (ch 1003)⟩,
  ⟨.bin .add, (ch 1003), (.int .i64 5), (ch 1004)⟩,
  ⟨.bin .rem, (ch 1004), (.int .i64 5), (.int .i64 3)⟩]
theorem Zw.i114 : Zw.d44.sub 8 [[(ch 1001)]] (idl 8 Zw.d44.objs) (idA 1) (Zw.d44.st 8 []) = true := by kernel_rfl
theorem Zw.r114 : leafNext (fK (Tryz.Es Tryz.m4 (syOf Zw.t114)) 100000 100000 Zw.p0 (Zw.d44.st 8 [[(ch 1001)]]) 5) 8 Zw.d72 [(10, 10), (11, 11), (12, 12), (13, 13), (14, 35)] [(ch 1000)] = some Zw.p0 := by kernel_rfl
noncomputable def Zw.t118 : List SE := ncL [⟨.len, (ch 1000), (.int .i64 0), (ch 1002)⟩,
  ⟨.bin .lss, (.int .i64 2), (ch 1002), (.bool true)⟩,
  ⟨.idx 1, (ch 1000), (.int .i64 2), (.pointer (some ⟨8, 0, none⟩))⟩,
  ⟨.bin .rem, (ch 1001), (.int .i64 5), (ch 1003)⟩,
  ⟨.bin .add, (ch 1003), (.int .i64 5), (ch 1004)⟩,
  ⟨.bin .rem, (ch 1004), (.int .i64 5), (.int .i64 1)⟩]
theorem Zw.i118 : Zw.d45.sub 8 [[(ch 1001)]] (idl 8 Zw.d45.objs) (idA 1) (Zw.d45.st 8 []) = true := by kernel_rfl
theorem Zw.r118 : leafNext (fK (Tryz.Es Tryz.m4 (syOf Zw.t118)) 100000 100000 Zw.p0 (Zw.d45.st 8 [[(ch 1001)]]) 3) 8 Zw.d75 [(10, 10), (11, 11), (12, 12), (13, 13), (14, 24)] [(ch 1000)] = some Zw.p0 := by kernel_rfl
noncomputable def Zw.t122 : List SE := ncL [⟨.len, (ch 1000), (.int .i64 0), (ch 1001)⟩,
  ⟨.bin .lss, (.int .i64 2), (ch 1001), (.bool false)⟩]
theorem Zw.i122 : Zw.d45.sub 8 [] (idl 8 Zw.d45.objs) (idA 1) (Zw.d45.st 8 []) = true := by kernel_rfl
theorem Zw.r122 : leafNext (fK (Tryz.Es Tryz.m4 (syOf Zw.t122)) 100000 100000 Zw.p0 (Zw.d45.st 8 []) 2) 8 Zw.d74 [(10, 10), (11, 11), (12, 12), (13, 13), (14, 20)] [(ch 1000)] = some Zw.p0 := by kernel_rfl
noncomputable def Zw.t126 : List SE := ncL [⟨.len, (ch 1000), (.int .i64 0), (ch 1002)⟩,
  ⟨.bin .lss, (.int .i64 2), (ch 1002), (.bool true)⟩,
  ⟨.idx 1, (ch 1000), (.int .i64 2), (.pointer (some ⟨8, 0, none⟩))⟩,
  ⟨.bin .rem, (ch 1001), (.int .i64 5), (ch 1003)⟩,
  ⟨.bin .add, (ch 1003), (.int .i64 5), (ch 1004)⟩,
  ⟨.bin .rem, (ch 1004), (.int .i64 5), (.int .i64 3)⟩]
theorem Zw.i126 : Zw.d46.sub 8 [[(ch 1001)]] (idl 8 Zw.d46.objs) (idA 1) (Zw.d46.st 8 []) = true := by kernel_rfl
theorem Zw.r126 : leafNext (fK (Tryz.Es Tryz.m4 (syOf Zw.t126)) 100000 100000 Zw.p0 (Zw.d46.st 8 [[(ch 1001)]]) 5) 8 Zw.d82 [(10, 10), (11, 11), (12, 12), (13, 13), (14, 35)] [(ch 1000)] = some Zw.p0 := by kernel_rfl
noncomputable def Zw.t130 : List SE := ncL [⟨.len, (ch 1000), (.int .i64 0), (ch 1002)⟩,
  ⟨.bin .lss, (.int .i64 2), (ch 1002), (.bool true)⟩,
  ⟨.idx 1, (ch 1000), (.int .i64 2), (.pointer (some ⟨8, 0, none⟩))⟩,
  ⟨.bin .rem, (ch 1001), (.int .i64 5), (ch 1003)⟩,
  ⟨.bin .add, (ch 1003), (.int .i64 5), (ch 1004)⟩,
  ⟨.bin .rem, (ch 1004), (.int .i64 5), (.int .i64 1)⟩]
theorem Zw.i130 : Zw.d47.sub 8 [[(ch 1001)]] (idl 8 Zw.d47.objs) (idA 1) (Zw.d47.st 8 []) = true := by kernel_rfl
theorem Zw.r130 : leafNext (fK (Tryz.Es Tryz.m4 (syOf Zw.t130)) 100000 100000 Zw.p0 (Zw.d47.st 8 [[(ch 1001)]]) 3) 8 Zw.d85 [(10, 10), (11, 11), (12, 12), (13, 13), (14, 24)] [(ch 1000)] = some Zw.p0 := by kernel_rfl
noncomputable def Zw.t134 : List SE := ncL [⟨.len, (ch 1000), (.int .i64 0), (ch 1001)⟩,
  ⟨.bin .lss, (.int .i64 2), (ch 1001), (.bool false)⟩]
theorem Zw.i134 : Zw.d47.sub 8 [] (idl 8 Zw.d47.objs) (idA 1) (Zw.d47.st 8 []) = true := by kernel_rfl
theorem Zw.r134 : leafNext (fK (Tryz.Es Tryz.m4 (syOf Zw.t134)) 100000 100000 Zw.p0 (Zw.d47.st 8 []) 2) 8 Zw.d84 [(10, 10), (11, 11), (12, 12), (13, 13), (14, 20)] [(ch 1000)] = some Zw.p0 := by kernel_rfl
noncomputable def Zw.t138 : List SE := ncL [⟨.len, (ch 1000), (.int .i64 0), (ch 1002)⟩,
  ⟨.bin .lss, (.int .i64 2), (ch 1002), (.bool true)⟩,
  ⟨.idx 1, (ch 1000), (.int .i64 2), (.pointer (some ⟨8, 0, none⟩))⟩,
  ⟨.bin .rem, (ch 1001), (.int .i64 5), (ch 1003)⟩,
  ⟨.bin .add, (ch 1003), (.int .i64 5), (ch 1004)⟩,
  ⟨.bin .rem, (ch 1004), (.int .i64 5), (.int .i64 3)⟩]
theorem Zw.i138 : Zw.d48.sub 8 [[(ch 1001)]] (idl 8 Zw.d48.objs) (idA 1) (Zw.d48.st 8 []) = true := by kernel_rfl
theorem Zw.r138 : leafNext (fK (Tryz.Es Tryz.m4 (syOf Zw.t138)) 100000 100000 Zw.p0 (Zw.d48.st 8 [[(ch 1001)]]) 5) 8 Zw.d92 [(10, 10), (11, 11), (12, 12), (13, 13), (14, 35)] [(ch 1000)] = some Zw.p0 := by kernel_rfl
noncomputable def Zw.t142 : List SE := ncL [⟨.len, (ch 1000), (.int .i64 0), (ch 1002)⟩,
  ⟨.bin .lss, (.int .i64 2), (ch 1002), (.bool true)⟩,
  ⟨.idx 1, (ch 1000), (.int .i64 2), (.pointer (some ⟨8, 0, none⟩))⟩,
  ⟨.bin .rem, (ch 1001), (.int .i64 5), (ch 1003)⟩,
  ⟨.bin .add, (ch 1003), (.int .i64 5), (ch 1004)⟩,
  ⟨.bin .rem, (ch 1004), (.int .i64 5), (.int .i64 1)⟩]
theorem Zw.i142 : Zw.d49.sub 8 [[(ch 1001)]] (idl 8 Zw.d49.objs) (idA 1) (Zw.d49.st 8 []) = true := by kernel_rfl
theorem Zw.r142 : leafNext (fK (Tryz.Es Tryz.m4 (syOf Zw.t142)) 100000 100000 Zw.p0 (Zw.d49.st 8 [[(ch 1001)]]) 3) 8 Zw.d95 [(10, 10), (11, 11), (12, 12), (13, 13), (14, 24)] [(ch 1000)] = some Zw.p0 := by kernel_rfl
noncomputable def Zw.t146 : List SE := ncL [⟨.len, (ch 1000), (.int .i64 0), (ch 1001)⟩,
  ⟨.bin .lss, (.int .i64 2), (ch 1001), (.bool false)⟩]
theorem Zw.i146 : Zw.d49.sub 8 [] (idl 8 Zw.d49.objs) (idA 1) (Zw.d49.st 8 []) = true := by kernel_rfl
theorem Zw.r146 : leafNext (fK (Tryz.Es Tryz.m4 (syOf Zw.t146)) 100000 100000 Zw.p0 (Zw.d49.st 8 []) 2) 8 Zw.d94 [(10, 10), (11, 11), (12, 12), (13, 13), (14, 20)] [(ch 1000)] = some Zw.p0 := by kernel_rfl
noncomputable def Zw.t150 : List SE := ncL [⟨.len, (ch 1000), (.int .i64 0), (ch 1002)⟩,
  ⟨.bin .lss, (.int .i64 2), (ch 1002), (.bool true)⟩,
  ⟨.idx 1, (ch 1000), (.int .i64 2), (.pointer (some ⟨8, 0, none⟩))⟩,
  ⟨.bin .rem, (ch 1001), (.int .i64 5), (ch 1003)⟩,
  ⟨.bin .add, (ch 1003), (.int .i64 5), (ch 1004)⟩,
  ⟨.bin .rem, (ch 1004), (.int .i64 5), (.int .i64 3)⟩]
theorem Zw.i150 : Zw.d50.sub 8 [[(ch 1001)]] (idl 8 Zw.d50.objs) (idA 1) (Zw.d50.st 8 []) = true := by kernel_rfl
theorem Zw.r150 : leafNext (fK (Tryz.Es Tryz.m4 (syOf Zw.t150)) 100000 100000 Zw.p0 (Zw.d50.st 8 [[(ch 1001)]]) 5) 8 Zw.d102 [(10, 10), (11, 11), (12, 12), (13, 13), (14, 35)] [(ch 1000)] = some Zw.p0 := by kernel_rfl
noncomputable def Zw.t154 : List SE := ncL [⟨.len, (ch 1000), (.int .i64 0), (ch 1002)⟩,
  ⟨.bin .lss, (.int .i64 2), (ch 1002), (.bool true)⟩,
  ⟨.idx 1, (ch 1000), (.int .i64 2), (.pointer (some ⟨8, 0, none⟩))⟩,
  ⟨.bin .rem, (ch 1001), (.int .i64 5), (ch 1003)⟩,
  ⟨.bin .add, (ch 1003), (.int .i64 5), (ch 1004)⟩,
  ⟨.bin .rem, (ch 1004), (.int .i64 5), (.int .i64 1)⟩]
theorem Zw.i154 : Zw.d51.sub 8 [[(ch 1001)]] (idl 8 Zw.d51.objs) (idA 1) (Zw.d51.st 8 []) = true := by kernel_rfl
theorem Zw.r154 : leafNext (fK (Tryz.Es Tryz.m4 (syOf Zw.t154)) 100000 100000 Zw.p0 (Zw.d51.st 8 [[(ch 1001)]]) 3) 8 Zw.d105 [(10, 10), (11, 11), (12, 12), (13, 13), (14, 24)] [(ch 1000)] = some Zw.p0 := by kernel_rfl
noncomputable def Zw.t158 : List SE := ncL [⟨.len, (ch 1000), (.int .i64 0), (ch 1001)⟩,
  ⟨.bin .lss, (.int .i64 2), (ch 1001), (.bool false)⟩]
theorem Zw.i158 : Zw.d51.sub 8 [] (idl 8 Zw.d51.objs) (idA 1) (Zw.d51.st 8 []) = true := by kernel_rfl
theorem Zw.r158 : leafNext (fK (Tryz.Es Tryz.m4 (syOf Zw.t158)) 100000 100000 Zw.p0 (Zw.d51.st 8 []) 2) 8 Zw.d104 [(10, 10), (11, 11), (12, 12), (13, 13), (14, 20)] [(ch 1000)] = some Zw.p0 := by kernel_rfl
noncomputable def Zw.t162 : List SE := ncL [⟨.len, (ch 1000), (.int .i64 0), (ch 1002)⟩,
  ⟨.bin .lss, (.int .i64 2), (ch 1002), (.bool true)⟩,
  ⟨.idx 1, (ch 1000), (.int .i64 2), (.pointer (some ⟨8, 0, none⟩))⟩,
  ⟨.bin .rem, (ch 1001), (.int .i64 5), (ch 1003)⟩,
  ⟨.bin .add, (ch 1003), (.int .i64 5), (ch 1004)⟩,
  ⟨.bin .rem, (ch 1004), (.int .i64 5), (.int .i64 3)⟩]
theorem Zw.i162 : Zw.d52.sub 8 [[(ch 1001)]] (idl 8 Zw.d52.objs) (idA 1) (Zw.d52.st 8 []) = true := by kernel_rfl
theorem Zw.r162 : leafNext (fK (Tryz.Es Tryz.m4 (syOf Zw.t162)) 100000 100000 Zw.p0 (Zw.d52.st 8 [[(ch 1001)]]) 5) 8 Zw.d112 [(10, 10), (11, 11), (12, 12), (13, 13), (14, 35)] [(ch 1000)] = some Zw.p0 := by kernel_rfl
noncomputable def Zw.t166 : List SE := ncL [⟨.len, (ch 1000), (.int .i64 0), (ch 1002)⟩,
  ⟨.bin .lss, (.int .i64 2), (ch 1002), (.bool true)⟩,
  ⟨.idx 1, (ch 1000), (.int .i64 2), (.pointer (some ⟨8, 0, none⟩))⟩,
  ⟨.bin .rem, (ch 1001), (.int .i64 5), (ch 1003)⟩,
  ⟨.bin .add, (ch 1003), (.int .i64 5), (ch 1004)⟩,
  ⟨.bin .rem, (ch 1004), (.int .i64 5), (.int .i64 1)⟩]
theorem Zw.i166 : Zw.d53.sub 8 [[(ch 1001)]] (idl 8 Zw.d53.objs) (idA 1) (Zw.d53.st 8 []) = true := by kernel_rfl
theorem Zw.r166 : leafNext (fK (Tryz.Es Tryz.m4 (syOf Zw.t166)) 100000 100000 Zw.p0 (Zw.d53.st 8 [[(ch 1001)]]) 3) 8 Zw.d115 [(10, 10), (11, 11), (12, 12), (13, 13), (14, 24)] [(ch 1000)] = some Zw.p0 := by kernel_rfl
noncomputable def Zw.t170 : List SE := ncL [⟨.len, (ch 1000), (.int .i64 0), (ch 1001)⟩,
  ⟨.bin .lss, (.int .i64 2), (ch 1001), (.bool false)⟩]
theorem Zw.i170 : Zw.d53.sub 8 [] (idl 8 Zw.d53.objs) (idA 1) (Zw.d53.st 8 []) = true := by kernel_rfl
theorem Zw.r170 : leafNext (fK (Tryz.Es Tryz.m4 (syOf Zw.t170)) 100000 100000 Zw.p0 (Zw.d53.st 8 []) 2) 8 Zw.d114 [(10, 10), (11, 11), (12, 12), (13, 13), (14, 20)] [(ch 1000)] = some Zw.p0 := by kernel_rfl
noncomputable def Zw.t174 : List SE := ncL [⟨.len, (ch 1000), (.int .i64 0), (ch 1002)⟩,
  ⟨.bin .lss, (.int .i64 2), (ch 1002), (.bool true)⟩,
  ⟨.idx 1, (ch 1000), (.int .i64 2), (.pointer (some ⟨8, 0, none⟩))⟩,
  ⟨.bin .rem, (ch 1001), (.int .i64 5), (ch 1003)⟩,
  ⟨.bin .add, (ch 1003), (.int .i64 5), (ch 1004)⟩,
  ⟨.bin .rem, (ch 1004), (.int .i64 5), (.int .i64 3)⟩]
theorem Zw.i174 : Zw.d54.sub 8 [[(ch 1001)]] (idl 8 Zw.d54.objs) (idA 1) (Zw.d54.st 8 []) = true := by kernel_rfl
theorem Zw.r174 : leafNext (fK (Tryz.Es Tryz.m4 (syOf Zw.t174)) 100000 100000 Zw.p0 (Zw.d54.st 8 [[(ch 1001)]]) 5) 8 Zw.d122 [(10, 10), (11, 11), (12, 12), (13, 13), (14, 35)] [(ch 1000)] = some Zw.p0 := by kernel_rfl
noncomputable def Zw.t178 : List SE := ncL [⟨.len, (ch 1000), (.int .i64 0), (ch 1002)⟩,
  ⟨.bin .lss, (.int .i64 2), (ch 1002), (.bool true)⟩,
  ⟨.idx 1, (ch 1000), (.int .i64 2), (.pointer (some ⟨8, 0, none⟩))⟩,
  ⟨.bin .rem, (ch 1001), (.int .i64 5), (ch 1003)⟩,
  ⟨.bin .add, (ch 1003), (.int .i64 5), (ch 1004)⟩,
  ⟨.bin .rem, (ch 1004), (.int .i64 5), (.int .i64 1)⟩]
theorem Zw.i178 : Zw.d55.sub 8 [[(ch 1001)]] (idl 8 Zw.d55.objs) (idA 1) (Zw.d55.st 8 []) = true := by kernel_rfl
theorem Zw.r178 : leafNext (fK (Tryz.Es Tryz.m4 (syOf Zw.t178)) 100000 100000 Zw.p0 (Zw.d55.st 8 [[(ch 1001)]]) 3) 8 Zw.d125 [(10, 10), (11, 11), (12, 12), (13, 13), (14, 24)] [(ch 1000)] = some Zw.p0 := by kernel_rfl
noncomputable def Zw.t182 : List SE := ncL [⟨.len, (ch 1000), (.int .i64 0), (ch 1001)⟩,
  ⟨.bin .lss, (.int .i64 2), (ch 1001), (.bool false)⟩]
theorem Zw.i182 : Zw.d55.sub 8 [] (idl 8 Zw.d55.objs) (idA 1) (Zw.d55.st 8 []) = true := by kernel_rfl
theorem Zw.r182 : leafNext (fK (Tryz.Es Tryz.m4 (syOf Zw.t182)) 100000 100000 Zw.p0 (Zw.d55.st 8 []) 2) 8 Zw.d124 [(10, 10), (11, 11), (12, 12), (13, 13), (14, 20)] [(ch 1000)] = some Zw.p0 := by kernel_rfl
noncomputable def Zw.t186 : List SE := ncL [⟨.len, (ch 1000), (.int .i64 0), (ch 1002)⟩,
  ⟨.bin .lss, (.int .i64 2), (ch 1002), (.bool true)⟩,
  ⟨.idx 1, (ch 1000), (.int .i64 2), (.pointer (some ⟨8, 0, none⟩))⟩,
  ⟨.bin .rem, (ch 1001), (.int .i64 5), (ch 1003)⟩,
  ⟨.bin .add, (ch 1003), (.int .i64 5), (ch 1004)⟩,
  ⟨.bin .rem, (ch 1004), (.int .i64 5), (.int .i64 3)⟩]
theorem Zw.i186 : Zw.d56.sub 8 [[(ch 1001)]] (idl 8 Zw.d56.objs) (idA 1) (Zw.d56.st 8 []) = true := by kernel_rfl
theorem Zw.r186 : leafNext (fK (Tryz.Es Tryz.m4 (syOf Zw.t186)) 100000 100000 Zw.p0 (Zw.d56.st 8 [[(ch 1001)]]) 5) 8 Zw.d132 [(10, 10), (11, 11), (12, 12), (13, 13), (14, 35)] [(ch 1000)] = some Zw.p0 := by kernel_rfl
noncomputable def Zw.t190 : List SE := ncL [⟨.len, (ch 1000), (.int .i64 0), (ch 1002)⟩,
  ⟨.bin .lss, (.int .i64 2), (ch 1002), (.bool true)⟩,
  ⟨.idx 1, (ch 1000), (.int .i64 2), (.pointer (some ⟨8, 0, none⟩))⟩,
  ⟨.bin .rem, (ch 1001), (.int .i64 5), (ch 1003)⟩,
  ⟨.bin .add, (ch 1003), (.int .i64 5), (ch 1004)⟩,
  ⟨.bin .rem, (ch 1004), (.int .i64 5), (.int .i64 1)⟩]
theorem Zw.i190 : Zw.d57.sub 8 [[(ch 1001)]] (idl 8 Zw.d57.objs) (idA 1) (Zw.d57.st 8 []) = true := by kernel_rfl
theorem Zw.r190 : leafNext (fK (Tryz.Es Tryz.m4 (syOf Zw.t190)) 100000 100000 Zw.p0 (Zw.d57.st 8 [[(ch 1001)]]) 3) 8 Zw.d135 [(10, 10), (11, 11), (12, 12), (13, 13), (14, 24)] [(ch 1000)] = some Zw.p0 := by kernel_rfl
noncomputable def Zw.t194 : List SE := ncL [⟨.len, (ch 1000), (.int .i64 0), (ch 1001)⟩,
  ⟨.bin .lss, (.int .i64 2), (ch 1001), (.bool false)⟩]
theorem Zw.i194 : Zw.d57.sub 8 [] (idl 8 Zw.d57.objs) (idA 1) (Zw.d57.st 8 []) = true := by kernel_rfl
theorem Zw.r194 : leafNext (fK (Tryz.Es Tryz.m4 (syOf Zw.t194)) 100000 100000 Zw.p0 (Zw.d57.st 8 []) 2) 8 Zw.d134 [(10, 10), (11, 11), (12, 12), (13, 13), (14, 20)] [(ch 1000)] = some Zw.p0 := by kernel_rfl
noncomputable def Zw.t198 : List SE := ncL [⟨.len, (ch 1000), (.int .i64 0), (ch 1002)⟩,
  ⟨.bin .lss, (.int .i64 2), (ch 1002), (.bool true)⟩,
  ⟨.idx 1, (ch 1000), (.int .i64 2), (.pointer (some ⟨8, 0, none⟩))⟩,
  ⟨.bin .rem, (ch 1001), (.int .i64 5), (ch 1003)⟩,
  ⟨.bin .add, (ch 1003), (.int .i64 5), (ch 1004)⟩,
  ⟨.bin .rem, (ch 1004), (.int .i64 5), (.int .i64 3)⟩]
theorem Zw.i198 : Zw.d58.sub 8 [[(ch 1001)]] (idl 8 Zw.d58.objs) (idA 1) (Zw.d58.st 8 []) = true := by kernel_rfl
theorem Zw.r198 : leafNext (fK (Tryz.Es Tryz.m4 (syOf Zw.t198)) 100000 100000 Zw.p0 (Zw.d58.st 8 [[(ch 1001)]]) 5) 8 Zw.d142 [(10, 10), (11, 11), (12, 12), (13, 13), (14, 35)] [(ch 1000)] = some Zw.p0 := by kernel_rfl
noncomputable def Zw.t202 : List SE := ncL [⟨.len, (ch 1000), (.int .i64 0), (ch 1002)⟩,
  ⟨.bin .lss, (.int .i64 2), (ch 1002), (.bool true)⟩,
  ⟨.idx 1, (ch 1000), (.int .i64 2), (.pointer (some ⟨8, 0, none⟩))⟩,
  ⟨.bin .rem, (ch 1001), (.int .i64 5), (ch 1003)⟩,
  ⟨.bin .add, (ch 1003), (.int .i64 5), (ch 1004)⟩,
  ⟨.bin .rem, (ch 1004), (.int .i64 5), (.int .i64 1)⟩]
theorem Zw.i202 : Zw.d59.sub 8 [[(ch 1001)]] (idl 8 Zw.d59.objs) (idA 1) (Zw.d59.st 8 []) = true := by kernel_rfl
theorem Zw.r202 : leafNext (fK (Tryz.Es Tryz.m4 (syOf Zw.t202)) 100000 100000 Zw.p0 (Zw.d59.st 8 [[(ch 1001)]]) 3) 8 Zw.d145 [(10, 10), (11, 11), (12, 12), (13, 13), (14, 24)] [(ch 1000)] = some Zw.p0 := by kernel_rfl
noncomputable def Zw.t206 : List SE := ncL [⟨.len, (ch 1000), (.int .i64 0), (ch 1001)⟩,
  ⟨.bin .lss, (.int .i64 2), (ch 1001), (.bool false)⟩]
theorem Zw.i206 : Zw.d59.sub 8 [] (idl 8 Zw.d59.objs) (idA 1) (Zw.d59.st 8 []) = true := by kernel_rfl
theorem Zw.r206 : leafNext (fK (Tryz.Es Tryz.m4 (syOf Zw.t206)) 100000 100000 Zw.p0 (Zw.d59.st 8 []) 2) 8 Zw.d144 [(10, 10), (11, 11), (12, 12), (13, 13), (14, 20)] [(ch 1000)] = some Zw.p0 := by kernel_rfl
noncomputable def Zw.t210 : List SE := ncL [⟨.len, (ch 1000), (.int .i64 0), (ch 1002)⟩,
  ⟨.bin .lss, (.int .i64 2), (ch 1002), (.bool true)⟩,
  ⟨.idx 1, (ch 1000), (.int .i64 2), (.pointer (some ⟨8, 0, none⟩))⟩,
  ⟨.bin .rem, (ch 1001), (.int .i64 5), (ch 1003)⟩,
  ⟨.bin .add, (ch 1003), (.int .i64 5), (ch 1004)⟩,
  ⟨.bin .rem, (ch 1004), (.int .i64 5), (.int .i64 3)⟩]
theorem Zw.i210 : Zw.d60.sub 8 [[(ch 1001)]] (idl 8 Zw.d60.objs) (idA 1) (Zw.d60.st 8 []) = true := by kernel_rfl
theorem Zw.r210 : leafNext (fK (Tryz.Es Tryz.m4 (syOf Zw.t210)) 100000 100000 Zw.p0 (Zw.d60.st 8 [[(ch 1001)]]) 5) 8 Zw.d152 [(10, 10), (11, 11), (12, 12), (13, 13), (14, 35)] [(ch 1000)] = some Zw.p0 := by kernel_rfl
noncomputable def Zw.t214 : List SE := ncL [⟨.len, (ch 1000), (.int .i64 0), (ch 1002)⟩,
  ⟨.bin .lss, (.int .i64 2), (ch 1002), (.bool true)⟩,
  ⟨.idx 1, (ch 1000), (.int .i64 2), (.pointer (some ⟨8, 0, none⟩))⟩,
  ⟨.bin .rem, (ch 1001), (.int .i64 5), (ch 1003)⟩,
  ⟨.bin .add, (ch 1003), (.int .i64 5), (ch 1004)⟩,
  ⟨.bin .rem, (ch 1004), (.int .i64 5), (.int .i64 1)⟩]
theorem Zw.i214 : Zw.d61.sub 8 [[(ch 1001)]] (idl 8 Zw.d61.objs) (idA 1) (Zw.d61.st 8 []) = true := by kernel_rfl
theorem Zw.r214 : leafNext (fK (Tryz.Es Tryz.m4 (syOf Zw.t214)) 100000 100000 Zw.p0 (Zw.d61.st 8 [[(ch 1001)]]) 3) 8 Zw.d155 [(10, 10), (11, 11), (12, 12), (13, 13), (14, 24)] [(ch 1000)] = some Zw.p0 := by kernel_rfl
noncomputable def Zw.t218 : List SE := ncL [⟨.len, (ch 1000), (.int .i64 0), (ch 1001)⟩,
  ⟨.bin .lss, (.int .i64 2), (ch 1001), (.bool false)⟩]
theorem Zw.i218 : Zw.d61.sub 8 [] (idl 8 Zw.d61.objs) (idA 1) (Zw.d61.st 8 []) = true := by kernel_rfl
theorem Zw.r218 : leafNext (fK (Tryz.Es Tryz.m4 (syOf Zw.t218)) 100000 100000 Zw.p0 (Zw.d61.st 8 []) 2) 8 Zw.d154 [(10, 10), (11, 11), (12, 12), (13, 13), (14, 20)] [(ch 1000)] = some Zw.p0 := by kernel_rfl
noncomputable def Zw.t222 : List SE := ncL [⟨.len, (ch 1000), (.int .i64 0), (ch 1002)⟩,
  ⟨.bin .lss, (.int .i64 2), (ch 1002), (.bool true)⟩,
  ⟨.idx 1, (ch 1000), (.int .i64 2), (.pointer (some ⟨8, 0, none⟩))⟩,
  ⟨.bin .rem, (ch 1001), (.int .i64 5), (ch 1003)⟩,
  ⟨.bin .add, (ch 1003), (.int .i64 5), (ch 1004)⟩,
  ⟨.bin .rem, (ch 1004), (.int .i64 5), (.int .i64 3)⟩]
theorem Zw.i222 : Zw.d62.sub 8 [[(ch 1001)]] (idl 8 Zw.d62.objs) (idA 1) (Zw.d62.st 8 []) = true := by kernel_rfl
theorem Zw.r222 : leafNext (fK (Tryz.Es Tryz.m4 (syOf Zw.t222)) 100000 100000 Zw.p0 (Zw.d62.st 8 [[(ch 1001)]]) 5) 8 Zw.d162 [(10, 10), (11, 11), (12, 12), (13, 13), (14, 35)] [(ch 1000)] = some Zw.p0 := by kernel_rfl
noncomputable def Zw.t226 : List SE := ncL [⟨.len, (ch 1000), (.int .i64 0), (ch 1002)⟩,
  ⟨.bin .lss, (.int .i64 2), (ch 1002), (.bool true)⟩,
  ⟨.idx 1, (ch 1000), (.int .i64 2), (.pointer (some ⟨8, 0, none⟩))⟩,
  ⟨.bin .rem, (ch 1001), (.int .i64 5), (ch 1003)⟩,
  ⟨.bin .add, (ch 1003), (.int .i64 5), (ch 1004)⟩,
  ⟨.bin .rem, (ch 1004), (.int .i64 5), (.int .i64 1)⟩]
theorem Zw.i226 : Zw.d63.sub 8 [[(ch 1001)]] (idl 8 Zw.d63.objs) (idA 1) (Zw.d63.st 8 []) = true := by kernel_rfl
theorem Zw.r226 : leafNext (fK (Tryz.Es Tryz.m4 (syOf Zw.t226)) 100000 100000 Zw.p0 (Zw.d63.st 8 [[(ch 1001)]]) 3) 8 Zw.d165 [(10, 10), (11, 11), (12, 12), (13, 13), (14, 24)] [(ch 1000)] = some Zw.p0 := by kernel_rfl
noncomputable def Zw.t230 : List SE := ncL [⟨.len, (ch 1000), (.int .i64 0), (ch 1001)⟩,
  ⟨.bin .lss, (.int .i64 2), (ch 1001), (.bool false)⟩]
theorem Zw.i230 : Zw.d63.sub 8 [] (idl 8 Zw.d63.objs) (idA 1) (Zw.d63.st 8 []) = true := by kernel_rfl
theorem Zw.r230 : leafNext (fK (Tryz.Es Tryz.m4 (syOf Zw.t230)) 100000 100000 Zw.p0 (Zw.d63.st 8 []) 2) 8 Zw.d164 [(10, 10), (11, 11), (12, 12), (13, 13), (14, 20)] [(ch 1000)] = some Zw.p0 := by kernel_rfl
noncomputable def Zw.t234 : List SE := ncL [⟨.len, (ch 1000), (.int .i64 0), (ch 1002)⟩,
  ⟨.bin .lss, (.int .i64 2), (ch 1002), (.bool true)⟩,
  ⟨.idx 1, (ch 1000), (.int .i64 2), (.pointer (some ⟨8, 0, none⟩))⟩,
  ⟨.bin .rem, (ch 1001), (.int .i64 5), (ch 1003)⟩,
  ⟨.bin .add, (ch 1003), (.int .i64 5), (ch 1004)⟩,
  ⟨.bin .rem, (ch 1004), (.int .i64 5), (.int .i64 3)⟩]
theorem Zw.i234 : Zw.d64.sub 8 [[(ch 1001)]] (idl 8 Zw.d64.objs) (idA 1) (Zw.d64.st 8 []) = true := by kernel_rfl
theorem Zw.r234 : leafNext (fK (Tryz.Es Tryz.m4 (syOf Zw.t234)) 100000 100000 Zw.p0 (Zw.d64.st 8 [[(ch 1001)]]) 5) 8 Zw.d172 [(10, 10), (11, 11), (12, 12), (13, 13), (14, 35)] [(ch 1000)] = some Zw.p0 := by kernel_rfl
noncomputable def Zw.t238 : List SE := ncL [⟨.len, (ch 1000), (.int .i64 0), (ch 1002)⟩,
  ⟨.bin .lss, (.int .i64 2), (ch 1002), (.bool true)⟩,
  ⟨.idx 1, (ch 1000), (.int .i64 2), (.pointer (some ⟨8, 0, none⟩))⟩,
  ⟨.bin .rem, (ch 1001), (.int .i64 5), (ch 1003)⟩,
  ⟨.bin .add, (ch 1003), (.int .i64 5), (ch 1004)⟩,
  ⟨.bin .rem, (ch 1004), (.int .i64 5), (.int .i64 1)⟩]
theorem Zw.i238 : Zw.d65.sub 8 [[(ch 1001)]] (idl 8 Zw.d65.objs) (idA 1) (Zw.d65.st 8 []) = true := by kernel_rfl
theorem Zw.r238 : leafNext (fK (Tryz.Es Tryz.m4 (syOf Zw.t238)) 100000 100000 Zw.p0 (Zw.d65.st 8 [[(ch 1001)]]) 3) 8 Zw.d175 [(10, 10), (11, 11), (12, 12), (13, 13), (14, 24)] [(ch 1000)] = some Zw.p0 := by kernel_rfl
noncomputable def Zw.t242 : List SE := ncL [⟨.len, (ch 1000), (.int .i64 0), (ch 1001)⟩,
  ⟨.bin .lss, (.int .i64 2), (ch 1001), (.bool false)⟩]
theorem Zw.i242 : Zw.d65.sub 8 [] (idl 8 Zw.d65.objs) (idA 1) (Zw.d65.st 8 []) = true := by kernel_rfl
theorem Zw.r242 : leafNext (fK (Tryz.Es Tryz.m4 (syOf Zw.t242)) 100000 100000 Zw.p0 (Zw.d65.st 8 []) 2) 8 Zw.d174 [(10, 10), (11, 11), (12, 12), (13, 13), (14, 20)] [(ch 1000)] = some Zw.p0 := by kernel_rfl
noncomputable def Zw.t246 : List SE := ncL [⟨.len, (ch 1000), (.int .i64 0), (ch 1002)⟩,
  ⟨.bin .lss, (.int .i64 2), (ch 1002), (.bool true)⟩,
  ⟨.idx 1, (ch 1000), (.int .i64 2), (.pointer (some ⟨8, 0, none⟩))⟩,
  ⟨.bin .rem, (ch 1001), (.int .i64 5), (ch 1003)⟩,
  ⟨.bin .add, (ch 1003), (.int .i64 5), (ch 1004)⟩,
  ⟨.bin .rem, (ch 1004), (.int .i64 5), (.int .i64 3)⟩]
theorem Zw.i246 : Zw.d66.sub 8 [[(ch 1001)]] (idl 8 Zw.d66.objs) (idA 1) (Zw.d66.st 8 []) = true := by kernel_rfl
theorem Zw.r246 : leafNext (fK (Tryz.Es Tryz.m4 (syOf Zw.t246)) 100000 100000 Zw.p0 (Zw.d66.st 8 [[(ch 1001)]]) 5) 8 Zw.d182 [(10, 10), (11, 11), (12, 12), (13, 13), (14, 35)] [(ch 1000)] = some Zw.p0 := by kernel_rfl
noncomputable def Zw.t250 : List SE := ncL [⟨.len, (ch 1000), (.int .i64 0), (ch 1002)⟩,
  ⟨.bin .lss, (.int .i64 2), (ch 1002), (.bool true)⟩,
  ⟨.idx 1, (ch 1000), (.int .i64 2), (.pointer (some ⟨8, 0, none⟩))⟩,
  ⟨.bin .rem, (ch 1001), (.int .i64 5), (ch 1003)⟩,
  ⟨.bin .add, (ch 1003), (.int .i64 5), (ch 1004)⟩,
  ⟨.bin .rem, (ch 1004), (.int .i64 5), (.int .i64 1)⟩]
theorem Zw.i250 : Zw.d67.sub 8 [[(ch 1001)]] (idl 8 Zw.d67.objs) (idA 1) (Zw.d67.st 8 []) = true := by kernel_rfl
theorem Zw.r250 : leafNext (fK (Tryz.Es Tryz.m4 (syOf Zw.t250)) 100000 100000 Zw.p0 (Zw.d67.st 8 [[(ch 1001)]]) 3) 8 Zw.d185 [(10, 10), (11, 11), (12, 12), (13, 13), (14, 24)] [(ch 1000)] = some Zw.p0 := by kernel_rfl
noncomputable def Zw.t254 : List SE := ncL [⟨.len, (ch 1000), (.int .i64 0), (ch 1001)⟩,
  ⟨.bin .lss, (.int .i64 2), (ch 1001), (.bool false)⟩]
theorem Zw.i254 : Zw.d67.sub 8 [] (idl 8 Zw.d67.objs) (idA 1) (Zw.d67.st 8 []) = true := by kernel_rfl
theorem Zw.r254 : leafNext (fK (Tryz.Es Tryz.m4 (syOf Zw.t254)) 100000 100000 Zw.p0 (Zw.d67.st 8 []) 2) 8 Zw.d184 [(10, 10), (11, 11), (12, 12), (13, 13), (14, 20)] [(ch 1000)] = some Zw.p0 := by kernel_rfl
noncomputable def Zw.t258 : List SE := ncL [⟨.len, (ch 1000), (.int .i64 0), (ch 1002)⟩,
  ⟨.bin .lss, (.int .i64 2), (ch 1002), (.bool true)⟩,
  ⟨.idx 1, (ch 1000), (.int .i64 2), (.pointer (some ⟨8, 0, none⟩))⟩,
  ⟨.bin .rem, (ch 1001), (.int .i64 5), (ch 1003)⟩,
  ⟨.bin .add, (ch 1003), (.int .i64 5), (ch 1004)⟩,
  ⟨.bin .rem, (ch 1004), (.int .i64 5), (.int .i64 3)⟩]
theorem Zw.i258 : Zw.d68.sub 8 [[(ch 1001)]] (idl 8 Zw.d68.objs) (idA 1) (Zw.d68.st 8 []) = true := by kernel_rfl
theorem Zw.r258 : leafNext (fK (Tryz.Es Tryz.m4 (syOf Zw.t258)) 100000 100000 Zw.p0 (Zw.d68.st 8 [[(ch 1001)]]) 5) 8 Zw.d192 [(10, 10), (11, 11), (12, 12), (13, 13), (14, 35)] [(ch 1000)] = some Zw.p0 := by kernel_rfl
noncomputable def Zw.t262 : List SE := ncL []
theorem Zw.i262 : Zw.d70.sub 8 [] (idl 8 Zw.d70.objs) (idA 1) (Zw.d70.st 8 []) = true := by kernel_rfl
theorem Zw.r262 : leafFin (Tryz.Es Tryz.m4 (syOf Zw.t262)) Tryz.f6 (fK (Tryz.Es Tryz.m4 (syOf Zw.t262)) 100000 100000 Zw.p0 (Zw.d70.st 8 []) 7) = true := by kernel_rfl
noncomputable def Zw.t266 : List SE := ncL []
theorem Zw.i266 : Zw.d74.sub 8 [] (idl 8 Zw.d74.objs) (idA 1) (Zw.d74.st 8 []) = true := by kernel_rfl
theorem Zw.r266 : leafFin (Tryz.Es Tryz.m4 (syOf Zw.t266)) Tryz.f6 (fK (Tryz.Es Tryz.m4 (syOf Zw.t266)) 100000 100000 Zw.p0 (Zw.d74.st 8 []) 7) = true := by kernel_rfl
noncomputable def Zw.t270 : List SE := ncL []
theorem Zw.i270 : Zw.d78.sub 8 [] (idl 8 Zw.d78.objs) (idA 1) (Zw.d78.st 8 []) = true := by kernel_rfl
theorem Zw.r270 : leafFin (Tryz.Es Tryz.m4 (syOf Zw.t270)) Tryz.f6 (fK (Tryz.Es Tryz.m4 (syOf Zw.t270)) 100000 100000 Zw.p0 (Zw.d78.st 8 []) 11) = true := by kernel_rfl
noncomputable def Zw.t274 : List SE := ncL []
theorem Zw.i274 : Zw.d82.sub 8 [] (idl 8 Zw.d82.objs) (idA 1) (Zw.d82.st 8 []) = true := by kernel_rfl
theorem Zw.r274 : leafFin (Tryz.Es Tryz.m4 (syOf Zw.t274)) Tryz.f6 (fK (Tryz.Es Tryz.m4 (syOf Zw.t274)) 100000 100000 Zw.p0 (Zw.d82.st 8 []) 11) = true := by kernel_rfl
noncomputable def Zw.t278 : List SE := ncL []
theorem Zw.i278 : Zw.d86.sub 8 [] (idl 8 Zw.d86.objs) (idA 1) (Zw.d86.st 8 []) = true := by kernel_rfl
theorem Zw.r278 : leafFin (Tryz.Es Tryz.m4 (syOf Zw.t278)) Tryz.f6 (fK (Tryz.Es Tryz.m4 (syOf Zw.t278)) 100000 100000 Zw.p0 (Zw.d86.st 8 []) 11) = true := by kernel_rfl
noncomputable def Zw.t282 : List SE := ncL []
theorem Zw.i282 : Zw.d90.sub 8 [] (idl 8 Zw.d90.objs) (idA 1) (Zw.d90.st 8 []) = true := by kernel_rfl
theorem Zw.r282 : leafFin (Tryz.Es Tryz.m4 (syOf Zw.t282)) Tryz.f6 (fK (Tryz.Es Tryz.m4 (syOf Zw.t282)) 100000 100000 Zw.p0 (Zw.d90.st 8 []) 11) = true := by kernel_rfl
noncomputable def Zw.t286 : List SE := ncL []
theorem Zw.i286 : Zw.d94.sub 8 [] (idl 8 Zw.d94.objs) (idA 1) (Zw.d94.st 8 []) = true := by kernel_rfl
theorem Zw.r286 : leafFin (Tryz.Es Tryz.m4 (syOf Zw.t286)) Tryz.f6 (fK (Tryz.Es Tryz.m4 (syOf Zw.t286)) 100000 100000 Zw.p0 (Zw.d94.st 8 []) 7) = true := by kernel_rfl
noncomputable def Zw.t290 : List SE := ncL []
theorem Zw.i290 : Zw.d98.sub 8 [] (idl 8 Zw.d98.objs) (idA 1) (Zw.d98.st 8 []) = true := by kernel_rfl
theorem Zw.r290 : leafFin (Tryz.Es Tryz.m4 (syOf Zw.t290)) Tryz.f6 (fK (Tryz.Es Tryz.m4 (syOf Zw.t290)) 100000 100000 Zw.p0 (Zw.d98.st 8 []) 11) = true := by kernel_rfl
noncomputable def Zw.t294 : List SE := ncL []
theorem Zw.i294 : Zw.d102.sub 8 [] (idl 8 Zw.d102.objs) (idA 1) (Zw.d102.st 8 []) = true := by kernel_rfl
theorem Zw.r294 : leafFin (Tryz.Es Tryz.m4 (syOf Zw.t294)) Tryz.f6 (fK (Tryz.Es Tryz.m4 (syOf Zw.t294)) 100000 100000 Zw.p0 (Zw.d102.st 8 []) 11) = true := by kernel_rfl
noncomputable def Zw.t298 : List SE := ncL []
theorem Zw.i298 : Zw.d106.sub 8 [] (idl 8 Zw.d106.objs) (idA 1) (Zw.d106.st 8 []) = true := by kernel_rfl
theorem Zw.r298 : leafFin (Tryz.Es Tryz.m4 (syOf Zw.t298)) Tryz.f6 (fK (Tryz.Es Tryz.m4 (syOf Zw.t298)) 100000 100000 Zw.p0 (Zw.d106.st 8 []) 11) = true := by kernel_rfl
noncomputable def Zw.t302 : List SE := ncL []
theorem Zw.i302 : Zw.d110.sub 8 [] (idl 8 Zw.d110.objs) (idA 1) (Zw.d110.st 8 []) = true := by kernel_rfl
theorem Zw.r302 : leafFin (Tryz.Es Tryz.m4 (syOf Zw.t302)) Tryz.f6 (fK (Tryz.Es Tryz.m4 (syOf Zw.t302)) 100000 100000 Zw.p0 (Zw.d110.st 8 []) 11) = true := by kernel_rfl
noncomputable def Zw.t306 : List SE := ncL []
theorem Zw.i306 : Zw.d114.sub 8 [] (idl 8 Zw.d114.objs) (idA 1) (Zw.d114.st 8 []) = true := by kernel_rfl
theorem Zw.r306 : leafFin (Tryz.Es Tryz.m4 (syOf Zw.t306)) Tryz.f6 (fK (Tryz.Es Tryz.m4 (syOf Zw.t306)) 100000 100000 Zw.p0 (Zw.d114.st 8 []) 11) = true := by kernel_rfl
noncomputable def Zw.t310 : List SE := ncL []
theorem Zw.i310 : Zw.d118.sub 8 [] (idl 8 Zw.d118.objs) (idA 1) (Zw.d118.st 8 []) = true := by kernel_rfl
theorem Zw.r310 : leafFin (Tryz.Es Tryz.m4 (syOf Zw.t310)) Tryz.f6 (fK (Tryz.Es Tryz.m4 (syOf Zw.t310)) 100000 100000 Zw.p0 (Zw.d118.st 8 []) 15) = true := by kernel_rfl
noncomputable def Zw.t314 : List SE := ncL []
theorem Zw.i314 : Zw.d122.sub 8 [] (idl 8 Zw.d122.objs) (idA 1) (Zw.d122.st 8 []) = true := by kernel_rfl
theorem Zw.r314 : leafFin (Tryz.Es Tryz.m4 (syOf Zw.t314)) Tryz.f6 (fK (Tryz.Es Tryz.m4 (syOf Zw.t314)) 100000 100000 Zw.p0 (Zw.d122.st 8 []) 11) = true := by kernel_rfl
noncomputable def Zw.t318 : List SE := ncL []
theorem Zw.i318 : Zw.d126.sub 8 [] (idl 8 Zw.d126.objs) (idA 1) (Zw.d126.st 8 []) = true := by kernel_rfl
theorem Zw.r318 : leafFin (Tryz.Es Tryz.m4 (syOf Zw.t318)) Tryz.f6 (fK (Tryz.Es Tryz.m4 (syOf Zw.t318)) 100000 100000 Zw.p0 (Zw.d126.st 8 []) 11) = true := by kernel_rfl
noncomputable def Zw.t322 : List SE := ncL []
theorem Zw.i322 : Zw.d130.sub 8 [] (idl 8 Zw.d130.objs) (idA 1) (Zw.d130.st 8 []) = true := by kernel_rfl
theorem Zw.r322 : leafFin (Tryz.Es Tryz.m4 (syOf Zw.t322)) Tryz.f6 (fK (Tryz.Es Tryz.m4 (syOf Zw.t322)) 100000 100000 Zw.p0 (Zw.d130.st 8 []) 11) = true := by kernel_rfl
noncomputable def Zw.t326 : List SE := ncL []
theorem Zw.i326 : Zw.d134.sub 8 [] (idl 8 Zw.d134.objs) (idA 1) (Zw.d134.st 8 []) = true := by kernel_rfl
theorem Zw.r326 : leafFin (Tryz.Es Tryz.m4 (syOf Zw.t326)) Tryz.f6 (fK (Tryz.Es Tryz.m4 (syOf Zw.t326)) 100000 100000 Zw.p0 (Zw.d134.st 8 []) 11) = true := by kernel_rfl
noncomputable def Zw.t330 : List SE := ncL []
theorem Zw.i330 : Zw.d138.sub 8 [] (idl 8 Zw.d138.objs) (idA 1) (Zw.d138.st 8 []) = true := by kernel_rfl
theorem Zw.r330 : leafFin (Tryz.Es Tryz.m4 (syOf Zw.t330)) Tryz.f6 (fK (Tryz.Es Tryz.m4 (syOf Zw.t330)) 100000 100000 Zw.p0 (Zw.d138.st 8 []) 15) = true := by kernel_rfl
noncomputable def Zw.t334 : List SE := ncL []
theorem Zw.i334 : Zw.d142.sub 8 [] (idl 8 Zw.d142.objs) (idA 1) (Zw.d142.st 8 []) = true := by kernel_rfl
theorem Zw.r334 : leafFin (Tryz.Es Tryz.m4 (syOf Zw.t334)) Tryz.f6 (fK (Tryz.Es Tryz.m4 (syOf Zw.t334)) 100000 100000 Zw.p0 (Zw.d142.st 8 []) 15) = true := by kernel_rfl
noncomputable def Zw.t338 : List SE := ncL []
theorem Zw.i338 : Zw.d146.sub 8 [] (idl 8 Zw.d146.objs) (idA 1) (Zw.d146.st 8 []) = true := by kernel_rfl
theorem Zw.r338 : leafFin (Tryz.Es Tryz.m4 (syOf Zw.t338)) Tryz.f6 (fK (Tryz.Es Tryz.m4 (syOf Zw.t338)) 100000 100000 Zw.p0 (Zw.d146.st 8 []) 11) = true := by kernel_rfl
noncomputable def Zw.t342 : List SE := ncL []
theorem Zw.i342 : Zw.d150.sub 8 [] (idl 8 Zw.d150.objs) (idA 1) (Zw.d150.st 8 []) = true := by kernel_rfl
theorem Zw.r342 : leafFin (Tryz.Es Tryz.m4 (syOf Zw.t342)) Tryz.f6 (fK (Tryz.Es Tryz.m4 (syOf Zw.t342)) 100000 100000 Zw.p0 (Zw.d150.st 8 []) 11) = true := by kernel_rfl
noncomputable def Zw.t346 : List SE := ncL []
theorem Zw.i346 : Zw.d154.sub 8 [] (idl 8 Zw.d154.objs) (idA 1) (Zw.d154.st 8 []) = true := by kernel_rfl
theorem Zw.r346 : leafFin (Tryz.Es Tryz.m4 (syOf Zw.t346)) Tryz.f6 (fK (Tryz.Es Tryz.m4 (syOf Zw.t346)) 100000 100000 Zw.p0 (Zw.d154.st 8 []) 11) = true := by kernel_rfl
noncomputable def Zw.t350 : List SE := ncL []
theorem Zw.i350 : Zw.d158.sub 8 [] (idl 8 Zw.d158.objs) (idA 1) (Zw.d158.st 8 []) = true := by kernel_rfl
theorem Zw.r350 : leafFin (Tryz.Es Tryz.m4 (syOf Zw.t350)) Tryz.f6 (fK (Tryz.Es Tryz.m4 (syOf Zw.t350)) 100000 100000 Zw.p0 (Zw.d158.st 8 []) 15) = true := by kernel_rfl
noncomputable def Zw.t354 : List SE := ncL []
theorem Zw.i354 : Zw.d162.sub 8 [] (idl 8 Zw.d162.objs) (idA 1) (Zw.d162.st 8 []) = true := by kernel_rfl
theorem Zw.r354 : leafFin (Tryz.Es Tryz.m4 (syOf Zw.t354)) Tryz.f6 (fK (Tryz.Es Tryz.m4 (syOf Zw.t354)) 100000 100000 Zw.p0 (Zw.d162.st 8 []) 15) = true := by kernel_rfl
noncomputable def Zw.t358 : List SE := ncL []
theorem Zw.i358 : Zw.d166.sub 8 [] (idl 8 Zw.d166.objs) (idA 1) (Zw.d166.st 8 []) = true := by kernel_rfl
theorem Zw.r358 : leafFin (Tryz.Es Tryz.m4 (syOf Zw.t358)) Tryz.f6 (fK (Tryz.Es Tryz.m4 (syOf Zw.t358)) 100000 100000 Zw.p0 (Zw.d166.st 8 []) 15) = true := by kernel_rfl
noncomputable def Zw.t362 : List SE := ncL []
theorem Zw.i362 : Zw.d170.sub 8 [] (idl 8 Zw.d170.objs) (idA 1) (Zw.d170.st 8 []) = true := by kernel_rfl
theorem Zw.r362 : leafFin (Tryz.Es Tryz.m4 (syOf Zw.t362)) Tryz.f6 (fK (Tryz.Es Tryz.m4 (syOf Zw.t362)) 100000 100000 Zw.p0 (Zw.d170.st 8 []) 11) = true := by kernel_rfl
noncomputable def Zw.t366 : List SE := ncL []
theorem Zw.i366 : Zw.d174.sub 8 [] (idl 8 Zw.d174.objs) (idA 1) (Zw.d174.st 8 []) = true := by kernel_rfl
theorem Zw.r366 : leafFin (Tryz.Es Tryz.m4 (syOf Zw.t366)) Tryz.f6 (fK (Tryz.Es Tryz.m4 (syOf Zw.t366)) 100000 100000 Zw.p0 (Zw.d174.st 8 []) 11) = true := by kernel_rfl
noncomputable def Zw.t370 : List SE := ncL []
theorem Zw.i370 : Zw.d178.sub 8 [] (idl 8 Zw.d178.objs) (idA 1) (Zw.d178.st 8 []) = true := by kernel_rfl
theorem Zw.r370 : leafFin (Tryz.Es Tryz.m4 (syOf Zw.t370)) Tryz.f6 (fK (Tryz.Es Tryz.m4 (syOf Zw.t370)) 100000 100000 Zw.p0 (Zw.d178.st 8 []) 15) = true := by kernel_rfl
noncomputable def Zw.t374 : List SE := ncL []
theorem Zw.i374 : Zw.d182.sub 8 [] (idl 8 Zw.d182.objs) (idA 1) (Zw.d182.st 8 []) = true := by kernel_rfl
theorem Zw.r374 : leafFin (Tryz.Es Tryz.m4 (syOf Zw.t374)) Tryz.f6 (fK (Tryz.Es Tryz.m4 (syOf Zw.t374)) 100000 100000 Zw.p0 (Zw.d182.st 8 []) 15) = true := by kernel_rfl
noncomputable def Zw.t378 : List SE := ncL []
theorem Zw.i378 : Zw.d186.sub 8 [] (idl 8 Zw.d186.objs) (idA 1) (Zw.d186.st 8 []) = true := by kernel_rfl
theorem Zw.r378 : leafFin (Tryz.Es Tryz.m4 (syOf Zw.t378)) Tryz.f6 (fK (Tryz.Es Tryz.m4 (syOf Zw.t378)) 100000 100000 Zw.p0 (Zw.d186.st 8 []) 15) = true := by kernel_rfl
noncomputable def Zw.t382 : List SE := ncL []
theorem Zw.i382 : Zw.d190.sub 8 [] (idl 8 Zw.d190.objs) (idA 1) (Zw.d190.st 8 []) = true := by kernel_rfl
theorem Zw.r382 : leafFin (Tryz.Es Tryz.m4 (syOf Zw.t382)) Tryz.f6 (fK (Tryz.Es Tryz.m4 (syOf Zw.t382)) 100000 100000 Zw.p0 (Zw.d190.st 8 []) 15) = true := by kernel_rfl
end
end Go.Proofs
