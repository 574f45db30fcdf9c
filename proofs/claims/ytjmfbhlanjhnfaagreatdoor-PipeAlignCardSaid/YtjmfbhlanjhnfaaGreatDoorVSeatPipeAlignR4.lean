/- Pieces of the law's run, from node to node, answered by the executor. No conditions. -/
import Derived.Test.YtjmfbhlanjhnfaaGreatDoorVSeatPipeAlignNd
set_option linter.all false
namespace Go.Proofs
open Go Go.Vsx
set_option maxRecDepth 1000000
noncomputable section
noncomputable def Zw.t3 : List SE := ncL [⟨.len, (ch 1000), (.int .i64 0), (ch 1002)⟩,
  ⟨.bin .lss, (.int .i64 0), (ch 1002), (.bool true)⟩,
  ⟨.idx 1, (ch 1000), (.int .i64 0), (.pointer (some ⟨8, 0, none⟩))⟩,
  ⟨.bin .rem, (ch 1001), (.int .i64 5), (ch 1003)⟩,
  ⟨.bin .add, (ch 1003), (.int .i64 5), (ch 1004)⟩,
  ⟨.bin .rem, (ch 1004), (.int .i64 5), (.int .i64 0)⟩]
theorem Zw.i3 : Zw.d1.sub 8 [[(ch 1001)]] (idl 8 Zw.d1.objs) (idA 1) (Zw.d1.st 8 []) = true := by kernel_rfl
theorem Zw.r3 : leafNext (fK (Tryz.Es Tryz.m4 (syOf Zw.t3)) 100000 100000 Zw.p0 (Zw.d1.st 8 [[(ch 1001)]]) 2) 8 Zw.d4 [(10, 10), (11, 11), (12, 18)] [(ch 1000)] = some Zw.p0 := by kernel_rfl
noncomputable def Zw.t7 : List SE := ncL [⟨.len, (ch 1000), (.int .i64 0), (ch 1002)⟩,
  ⟨.bin .lss, (.int .i64 0), (ch 1002), (.bool true)⟩,
  ⟨.idx 1, (ch 1000), (.int .i64 0), (.pointer (some ⟨8, 0, none⟩))⟩,
  ⟨.bin .rem, (ch 1001), (.int .i64 5), (ch 1003)⟩,
  ⟨.bin .add, (ch 1003), (.int .i64 5), (ch 1004)⟩,
  ⟨.bin .rem, (ch 1004), (.int .i64 5), (.int .i64 4)⟩]
theorem Zw.i7 : Zw.d1.sub 8 [[(ch 1001)]] (idl 8 Zw.d1.objs) (idA 1) (Zw.d1.st 8 []) = true := by kernel_rfl
theorem Zw.r7 : leafNext (fK (Tryz.Es Tryz.m4 (syOf Zw.t7)) 100000 100000 Zw.p0 (Zw.d1.st 8 [[(ch 1001)]]) 6) 8 Zw.d8 [(10, 10), (11, 11), (12, 40)] [(ch 1000)] = some Zw.p0 := by kernel_rfl
noncomputable def Zw.t11 : List SE := ncL [⟨.len, (ch 1000), (.int .i64 0), (ch 1002)⟩,
  ⟨.bin .lss, (.int .i64 0), (ch 1002), (.bool true)⟩,
  ⟨.idx 1, (ch 1000), (.int .i64 0), (.pointer (some ⟨8, 0, none⟩))⟩,
  ⟨.bin .rem, (ch 1001), (.int .i64 5), (ch 1003)⟩,
  ⟨.bin .add, (ch 1003), (.int .i64 5), (ch 1004)⟩,
  ⟨.bin .rem, (ch 1004), (.int .i64 5), (.int .i64 2)⟩]
theorem Zw.i11 : Zw.d2.sub 8 [[(ch 1001)]] (idl 8 Zw.d2.objs) (idA 1) (Zw.d2.st 8 []) = true := by kernel_rfl
theorem Zw.r11 : leafNext (fK (Tryz.Es Tryz.m4 (syOf Zw.t11)) 100000 100000 Zw.p0 (Zw.d2.st 8 [[(ch 1001)]]) 4) 8 Zw.d11 [(10, 10), (11, 11), (12, 27)] [(ch 1000)] = some Zw.p0 := by kernel_rfl
noncomputable def Zw.t15 : List SE := ncL [⟨.len, (ch 1000), (.int .i64 0), (ch 1002)⟩,
  ⟨.bin .lss, (.int .i64 0), (ch 1002), (.bool true)⟩,
  ⟨.idx 1, (ch 1000), (.int .i64 0), (.pointer (some ⟨8, 0, none⟩))⟩,
  ⟨.bin .rem, (ch 1001), (.int .i64 5), (ch 1003)⟩,
  ⟨.bin .add, (ch 1003), (.int .i64 5), (ch 1004)⟩,
  ⟨.bin .rem, (ch 1004), (.int .i64 5), (.int .i64 0)⟩]
theorem Zw.i15 : Zw.d3.sub 8 [[(ch 1001)]] (idl 8 Zw.d3.objs) (idA 1) (Zw.d3.st 8 []) = true := by kernel_rfl
theorem Zw.r15 : leafNext (fK (Tryz.Es Tryz.m4 (syOf Zw.t15)) 100000 100000 Zw.p0 (Zw.d3.st 8 [[(ch 1001)]]) 2) 8 Zw.d14 [(10, 10), (11, 11), (12, 18)] [(ch 1000)] = some Zw.p0 := by kernel_rfl
noncomputable def Zw.t19 : List SE := ncL [⟨.len, (ch 1000), (.int .i64 0), (ch 1002)⟩,
  ⟨.bin .lss, (.int .i64 0), (ch 1002), (.bool true)⟩,
  ⟨.idx 1, (ch 1000), (.int .i64 0), (.pointer (some ⟨8, 0, none⟩))⟩,
  ⟨.bin .rem, (ch 1001), (.int .i64 5), (ch 1003)⟩,
  ⟨.bin .add, (ch 1003), (.int .i64 5), (ch 1004)⟩,
  ⟨.bin .rem, (ch 1004), (.int .i64 5), (.int .i64 4)⟩]
theorem Zw.i19 : Zw.d3.sub 8 [[(ch 1001)]] (idl 8 Zw.d3.objs) (idA 1) (Zw.d3.st 8 []) = true := by kernel_rfl
theorem Zw.r19 : leafNext (fK (Tryz.Es Tryz.m4 (syOf Zw.t19)) 100000 100000 Zw.p0 (Zw.d3.st 8 [[(ch 1001)]]) 6) 8 Zw.d18 [(10, 10), (11, 11), (12, 40)] [(ch 1000)] = some Zw.p0 := by kernel_rfl
noncomputable def Zw.t23 : List SE := ncL []
theorem Zw.i23 : Zw.d6.sub 8 [] (idl 8 Zw.d6.objs) (idA 1) (Zw.d6.st 8 []) = true := by kernel_rfl
theorem Zw.r23 : leafFin (Tryz.Es Tryz.m4 (syOf Zw.t23)) Tryz.f6 (fK (Tryz.Es Tryz.m4 (syOf Zw.t23)) 100000 100000 Zw.p0 (Zw.d6.st 8 []) 6) = true := by kernel_rfl
noncomputable def Zw.t27 : List SE := ncL [⟨.len, (ch 1000), (.int .i64 0), (ch 1002)⟩,
  ⟨.bin .lss, (.int .i64 1), (ch 1002), (.bool true)⟩,
  ⟨.idx 1, (ch 1000), (.int .i64 1), (.pointer (some ⟨8, 0, none⟩))⟩,
  ⟨.bin .rem, (ch 1001), (.int .i64 5), (ch 1003)⟩,
  ⟨.bin .add, (ch 1003), (.int .i64 5), (ch 1004)⟩,
  ⟨.bin .rem, (ch 1004), (.int .i64 5), (.int .i64 1)⟩]
theorem Zw.i27 : Zw.d9.sub 8 [[(ch 1001)]] (idl 8 Zw.d9.objs) (idA 1) (Zw.d9.st 8 []) = true := by kernel_rfl
theorem Zw.r27 : leafNext (fK (Tryz.Es Tryz.m4 (syOf Zw.t27)) 100000 100000 Zw.p0 (Zw.d9.st 8 [[(ch 1001)]]) 3) 8 Zw.d20 [(10, 10), (11, 11), (12, 12), (13, 23)] [(ch 1000)] = some Zw.p0 := by kernel_rfl
noncomputable def Zw.t31 : List SE := ncL [⟨.len, (ch 1000), (.int .i64 0), (ch 1001)⟩,
  ⟨.bin .lss, (.int .i64 1), (ch 1001), (.bool false)⟩]
theorem Zw.i31 : Zw.d9.sub 8 [] (idl 8 Zw.d9.objs) (idA 1) (Zw.d9.st 8 []) = true := by kernel_rfl
theorem Zw.r31 : leafNext (fK (Tryz.Es Tryz.m4 (syOf Zw.t31)) 100000 100000 Zw.p0 (Zw.d9.st 8 []) 2) 8 Zw.d19 [(10, 10), (11, 11), (12, 12), (13, 19)] [(ch 1000)] = some Zw.p0 := by kernel_rfl
noncomputable def Zw.t35 : List SE := ncL [⟨.len, (ch 1000), (.int .i64 0), (ch 1002)⟩,
  ⟨.bin .lss, (.int .i64 1), (ch 1002), (.bool true)⟩,
  ⟨.idx 1, (ch 1000), (.int .i64 1), (.pointer (some ⟨8, 0, none⟩))⟩,
  ⟨.bin .rem, (ch 1001), (.int .i64 5), (ch 1003)⟩,
  ⟨.bin .add, (ch 1003), (.int .i64 5), (ch 1004)⟩,
  ⟨.bin .rem, (ch 1004), (.int .i64 5), (.int .i64 3)⟩]
theorem Zw.i35 : Zw.d10.sub 8 [[(ch 1001)]] (idl 8 Zw.d10.objs) (idA 1) (Zw.d10.st 8 []) = true := by kernel_rfl
theorem Zw.r35 : leafNext (fK (Tryz.Es Tryz.m4 (syOf Zw.t35)) 100000 100000 Zw.p0 (Zw.d10.st 8 [[(ch 1001)]]) 5) 8 Zw.d27 [(10, 10), (11, 11), (12, 12), (13, 34)] [(ch 1000)] = some Zw.p0 := by kernel_rfl
noncomputable def Zw.t39 : List SE := ncL [⟨.len, (ch 1000), (.int .i64 0), (ch 1002)⟩,
  ⟨.bin .lss, (.int .i64 1), (ch 1002), (.bool true)⟩,
  ⟨.idx 1, (ch 1000), (.int .i64 1), (.pointer (some ⟨8, 0, none⟩))⟩,
  ⟨.bin .rem, (ch 1001), (.int .i64 5), (ch 1003)⟩,
  ⟨.bin .add, (ch 1003), (.int .i64 5), (ch 1004)⟩,
  ⟨.bin .rem, (ch 1004), (.int .i64 5), (.int .i64 1)⟩]
theorem Zw.i39 : Zw.d11.sub 8 [[(ch 1001)]] (idl 8 Zw.d11.objs) (idA 1) (Zw.d11.st 8 []) = true := by kernel_rfl
theorem Zw.r39 : leafNext (fK (Tryz.Es Tryz.m4 (syOf Zw.t39)) 100000 100000 Zw.p0 (Zw.d11.st 8 [[(ch 1001)]]) 3) 8 Zw.d30 [(10, 10), (11, 11), (12, 12), (13, 23)] [(ch 1000)] = some Zw.p0 := by kernel_rfl
noncomputable def Zw.t43 : List SE := ncL [⟨.len, (ch 1000), (.int .i64 0), (ch 1001)⟩,
  ⟨.bin .lss, (.int .i64 1), (ch 1001), (.bool false)⟩]
theorem Zw.i43 : Zw.d11.sub 8 [] (idl 8 Zw.d11.objs) (idA 1) (Zw.d11.st 8 []) = true := by kernel_rfl
theorem Zw.r43 : leafNext (fK (Tryz.Es Tryz.m4 (syOf Zw.t43)) 100000 100000 Zw.p0 (Zw.d11.st 8 []) 2) 8 Zw.d29 [(10, 10), (11, 11), (12, 12), (13, 19)] [(ch 1000)] = some Zw.p0 := by kernel_rfl
noncomputable def Zw.t47 : List SE := ncL [⟨.len, (ch 1000), (.int .i64 0), (ch 1002)⟩,
  ⟨.bin .lss, (.int .i64 1), (ch 1002), (.bool true)⟩,
  ⟨.idx 1, (ch 1000), (.int .i64 1), (.pointer (some ⟨8, 0, none⟩))⟩,
  ⟨.bin .rem, (ch 1001), (.int .i64 5), (ch 1003)⟩,
  ⟨.bin .add, (ch 1003), (.int .i64 5), (ch 1004)⟩,
  ⟨.bin .rem, (ch 1004), (.int .i64 5), (.int .i64 3)⟩]
theorem Zw.i47 : Zw.d12.sub 8 [[(ch 1001)]] (idl 8 Zw.d12.objs) (idA 1) (Zw.d12.st 8 []) = true := by kernel_rfl
theorem Zw.r47 : leafNext (fK (Tryz.Es Tryz.m4 (syOf Zw.t47)) 100000 100000 Zw.p0 (Zw.d12.st 8 [[(ch 1001)]]) 5) 8 Zw.d37 [(10, 10), (11, 11), (12, 12), (13, 34)] [(ch 1000)] = some Zw.p0 := by kernel_rfl
noncomputable def Zw.t51 : List SE := ncL [⟨.len, (ch 1000), (.int .i64 0), (ch 1002)⟩,
  ⟨.bin .lss, (.int .i64 1), (ch 1002), (.bool true)⟩,
  ⟨.idx 1, (ch 1000), (.int .i64 1), (.pointer (some ⟨8, 0, none⟩))⟩,
  ⟨.bin .rem, (ch 1001), (.int .i64 5), (ch 1003)⟩,
  ⟨.bin .add, (ch 1003), (.int .i64 5), (ch 1004)⟩,
  ⟨.bin .rem, (ch 1004), (.int .i64 5), (.int .i64 1)⟩]
theorem Zw.i51 : Zw.d13.sub 8 [[(ch 1001)]] (idl 8 Zw.d13.objs) (idA 1) (Zw.d13.st 8 []) = true := by kernel_rfl
theorem Zw.r51 : leafNext (fK (Tryz.Es Tryz.m4 (syOf Zw.t51)) 100000 100000 Zw.p0 (Zw.d13.st 8 [[(ch 1001)]]) 3) 8 Zw.d40 [(10, 10), (11, 11), (12, 12), (13, 23)] [(ch 1000)] = some Zw.p0 := by kernel_rfl
noncomputable def Zw.t55 : List SE := ncL [⟨.len, (ch 1000), (.int .i64 0), (ch 1001)⟩,
  ⟨.bin .lss, (.int .i64 1), (ch 1001), (.bool false)⟩]
theorem Zw.i55 : Zw.d13.sub 8 [] (idl 8 Zw.d13.objs) (idA 1) (Zw.d13.st 8 []) = true := by kernel_rfl
theorem Zw.r55 : leafNext (fK (Tryz.Es Tryz.m4 (syOf Zw.t55)) 100000 100000 Zw.p0 (Zw.d13.st 8 []) 2) 8 Zw.d39 [(10, 10), (11, 11), (12, 12), (13, 19)] [(ch 1000)] = some Zw.p0 := by kernel_rfl
noncomputable def Zw.t59 : List SE := ncL [⟨.len, (ch 1000), (.int .i64 0), (ch 1002)⟩,
  ⟨.bin .lss, (.int .i64 1), (ch 1002), (.bool true)⟩,
  ⟨.idx 1, (ch 1000), (.int .i64 1), (.pointer (some ⟨8, 0, none⟩))⟩,
  ⟨.bin .rem, (ch 1001), (.int .i64 5), (ch 1003)⟩,
  ⟨.bin .add, (ch 1003), (.int .i64 5), (ch 1004)⟩,
  ⟨.bin .rem, (ch 1004), (.int .i64 5), (.int .i64 3)⟩]
theorem Zw.i59 : Zw.d14.sub 8 [[(ch 1001)]] (idl 8 Zw.d14.objs) (idA 1) (Zw.d14.st 8 []) = true := by kernel_rfl
theorem Zw.r59 : leafNext (fK (Tryz.Es Tryz.m4 (syOf Zw.t59)) 100000 100000 Zw.p0 (Zw.d14.st 8 [[(ch 1001)]]) 5) 8 Zw.d47 [(10, 10), (11, 11), (12, 12), (13, 34)] [(ch 1000)] = some Zw.p0 := by kernel_rfl
noncomputable def Zw.t63 : List SE := ncL [⟨.len, (ch 1000), (.int .i64 0), (ch 1002)⟩,
  ⟨.bin .lss, (.int .i64 1), (ch 1002), (.bool true)⟩,
  ⟨.idx 1, (ch 1000), (.int .i64 1), (.pointer (some ⟨8, 0, none⟩))⟩,
  ⟨.bin .rem, (ch 1001), (.int .i64 5), (ch 1003)⟩,
  ⟨.bin .add, (ch 1003), (.int .i64 5), (ch 1004)⟩,
  ⟨.bin .rem, (ch 1004), (.int .i64 5), (.int .i64 1)⟩]
theorem Zw.i63 : Zw.d15.sub 8 [[(ch 1001)]] (idl 8 Zw.d15.objs) (idA 1) (Zw.d15.st 8 []) = true := by kernel_rfl
theorem Zw.r63 : leafNext (fK (Tryz.Es Tryz.m4 (syOf Zw.t63)) 100000 100000 Zw.p0 (Zw.d15.st 8 [[(ch 1001)]]) 3) 8 Zw.d50 [(10, 10), (11, 11), (12, 12), (13, 23)] [(ch 1000)] = some Zw.p0 := by kernel_rfl
noncomputable def Zw.t67 : List SE := ncL [⟨.len, (ch 1000), (.int .i64 0), (ch 1001)⟩,
  ⟨.bin .lss, (.int .i64 1), (ch 1001), (.bool false)⟩]
theorem Zw.i67 : Zw.d15.sub 8 [] (idl 8 Zw.d15.objs) (idA 1) (Zw.d15.st 8 []) = true := by kernel_rfl
theorem Zw.r67 : leafNext (fK (Tryz.Es Tryz.m4 (syOf Zw.t67)) 100000 100000 Zw.p0 (Zw.d15.st 8 []) 2) 8 Zw.d49 [(10, 10), (11, 11), (12, 12), (13, 19)] [(ch 1000)] = some Zw.p0 := by kernel_rfl
noncomputable def Zw.t71 : List SE := ncL [⟨.len, (ch 1000), (.int .i64 0), (ch 1002)⟩,
  ⟨.bin .lss, (.int .i64 1), (ch 1002), (.bool true)⟩,
  ⟨.idx 1, (ch 1000), (.int .i64 1), (.pointer (some ⟨8, 0, none⟩))⟩,
  ⟨.bin .rem, (ch 1001), (.int .i64 5), (ch 1003)⟩,
  ⟨.bin .add, (ch 1003), (.int .i64 5), (ch 1004)⟩,
  ⟨.bin .rem, (ch 1004), (.int .i64 5), (.int .i64 3)⟩]
theorem Zw.i71 : Zw.d16.sub 8 [[(ch 1001)]] (idl 8 Zw.d16.objs) (idA 1) (Zw.d16.st 8 []) = true := by kernel_rfl
theorem Zw.r71 : leafNext (fK (Tryz.Es Tryz.m4 (syOf Zw.t71)) 100000 100000 Zw.p0 (Zw.d16.st 8 [[(ch 1001)]]) 5) 8 Zw.d57 [(10, 10), (11, 11), (12, 12), (13, 34)] [(ch 1000)] = some Zw.p0 := by kernel_rfl
noncomputable def Zw.t75 : List SE := ncL [⟨.len, (ch 1000), (.int .i64 0), (ch 1002)⟩,
  ⟨.bin .lss, (.int .i64 1), (ch 1002), (.bool true)⟩,
  ⟨.idx 1, (ch 1000), (.int .i64 1), (.pointer (some ⟨8, 0, none⟩))⟩,
  ⟨.bin .rem, (ch 1001), (.int .i64 5), (ch 1003)⟩,
  ⟨.bin .add, (ch 1003), (.int .i64 5), (ch 1004)⟩,
  ⟨.bin .rem, (ch 1004), (.int .i64 5), (.int .i64 1)⟩]
theorem Zw.i75 : Zw.d17.sub 8 [[(ch 1001)]] (idl 8 Zw.d17.objs) (idA 1) (Zw.d17.st 8 []) = true := by kernel_rfl
theorem Zw.r75 : leafNext (fK (Tryz.Es Tryz.m4 (syOf Zw.t75)) 100000 100000 Zw.p0 (Zw.d17.st 8 [[(ch 1001)]]) 3) 8 Zw.d60 [(10, 10), (11, 11), (12, 12), (13, 23)] [(ch 1000)] = some Zw.p0 := by kernel_rfl
noncomputable def Zw.t79 : List SE := ncL [⟨.len, (ch 1000), (.int .i64 0), (ch 1001)⟩,
  ⟨.bin .lss, (.int .i64 1), (ch 1001), (.bool false)⟩]
theorem Zw.i79 : Zw.d17.sub 8 [] (idl 8 Zw.d17.objs) (idA 1) (Zw.d17.st 8 []) = true := by kernel_rfl
theorem Zw.r79 : leafNext (fK (Tryz.Es Tryz.m4 (syOf Zw.t79)) 100000 100000 Zw.p0 (Zw.d17.st 8 []) 2) 8 Zw.d59 [(10, 10), (11, 11), (12, 12), (13, 19)] [(ch 1000)] = some Zw.p0 := by kernel_rfl
noncomputable def Zw.t83 : List SE := ncL [⟨.len, (ch 1000), (.int .i64 0), (ch 1002)⟩,
  ⟨.bin .lss, (.int .i64 1), (ch 1002), (.bool true)⟩,
  ⟨.idx 1, (ch 1000), (.int .i64 1), (.pointer (some ⟨8, 0, none⟩))⟩,
  ⟨.bin .rem, (ch 1001), (.int .i64 5), (ch 1003)⟩,
  ⟨.bin .add, (ch 1003), (.int .i64 5), (ch 1004)⟩,
  ⟨.bin .rem, (ch 1004), (.int .i64 5), (.int .i64 3)⟩]
theorem Zw.i83 : Zw.d18.sub 8 [[(ch 1001)]] (idl 8 Zw.d18.objs) (idA 1) (Zw.d18.st 8 []) = true := by kernel_rfl
theorem Zw.r83 : leafNext (fK (Tryz.Es Tryz.m4 (syOf Zw.t83)) 100000 100000 Zw.p0 (Zw.d18.st 8 [[(ch 1001)]]) 5) 8 Zw.d67 [(10, 10), (11, 11), (12, 12), (13, 34)] [(ch 1000)] = some Zw.p0 := by kernel_rfl
noncomputable def Zw.t87 : List SE := ncL []
theorem Zw.i87 : Zw.d20.sub 8 [] (idl 8 Zw.d20.objs) (idA 1) (Zw.d20.st 8 []) = true := by kernel_rfl
theorem Zw.r87 : leafFin (Tryz.Es Tryz.m4 (syOf Zw.t87)) Tryz.f6 (fK (Tryz.Es Tryz.m4 (syOf Zw.t87)) 100000 100000 Zw.p0 (Zw.d20.st 8 []) 6) = true := by kernel_rfl
noncomputable def Zw.t91 : List SE := ncL []
theorem Zw.i91 : Zw.d24.sub 8 [] (idl 8 Zw.d24.objs) (idA 1) (Zw.d24.st 8 []) = true := by kernel_rfl
theorem Zw.r91 : leafFin (Tryz.Es Tryz.m4 (syOf Zw.t91)) Tryz.f6 (fK (Tryz.Es Tryz.m4 (syOf Zw.t91)) 100000 100000 Zw.p0 (Zw.d24.st 8 []) 6) = true := by kernel_rfl
noncomputable def Zw.t95 : List SE := ncL []
theorem Zw.i95 : Zw.d28.sub 8 [] (idl 8 Zw.d28.objs) (idA 1) (Zw.d28.st 8 []) = true := by kernel_rfl
theorem Zw.r95 : leafFin (Tryz.Es Tryz.m4 (syOf Zw.t95)) Tryz.f6 (fK (Tryz.Es Tryz.m4 (syOf Zw.t95)) 100000 100000 Zw.p0 (Zw.d28.st 8 []) 10) = true := by kernel_rfl
noncomputable def Zw.t99 : List SE := ncL []
theorem Zw.i99 : Zw.d32.sub 8 [] (idl 8 Zw.d32.objs) (idA 1) (Zw.d32.st 8 []) = true := by kernel_rfl
theorem Zw.r99 : leafFin (Tryz.Es Tryz.m4 (syOf Zw.t99)) Tryz.f6 (fK (Tryz.Es Tryz.m4 (syOf Zw.t99)) 100000 100000 Zw.p0 (Zw.d32.st 8 []) 10) = true := by kernel_rfl
noncomputable def Zw.t103 : List SE := ncL []
theorem Zw.i103 : Zw.d36.sub 8 [] (idl 8 Zw.d36.objs) (idA 1) (Zw.d36.st 8 []) = true := by kernel_rfl
theorem Zw.r103 : leafFin (Tryz.Es Tryz.m4 (syOf Zw.t103)) Tryz.f6 (fK (Tryz.Es Tryz.m4 (syOf Zw.t103)) 100000 100000 Zw.p0 (Zw.d36.st 8 []) 10) = true := by kernel_rfl
noncomputable def Zw.t107 : List SE := ncL []
theorem Zw.i107 : Zw.d40.sub 8 [] (idl 8 Zw.d40.objs) (idA 1) (Zw.d40.st 8 []) = true := by kernel_rfl
theorem Zw.r107 : leafFin (Tryz.Es Tryz.m4 (syOf Zw.t107)) Tryz.f6 (fK (Tryz.Es Tryz.m4 (syOf Zw.t107)) 100000 100000 Zw.p0 (Zw.d40.st 8 []) 10) = true := by kernel_rfl
noncomputable def Zw.t111 : List SE := ncL [⟨.len, (ch 1000), (.int .i64 0), (ch 1002)⟩,
  ⟨.bin .lss, (.int .i64 2), (ch 1002), (.bool true)⟩,
  ⟨.idx 1, (ch 1000), (.int .i64 2), (.pointer (some ⟨8, 0, none⟩))⟩,
  ⟨.bin .rem, (ch 1001), (.int .i64 5), (ch 1003)⟩,
  ⟨.bin .add, (ch 1003), (.int .i64 5), (ch 1004)⟩,
  ⟨.bin .rem, (ch 1004), (.int .i64 5), (.int .i64 0)⟩]
theorem Zw.i111 : Zw.d44.sub 8 [[(ch 1001)]] (idl 8 Zw.d44.objs) (idA 1) (Zw.d44.st 8 []) = true := by kernel_rfl
theorem Zw.r111 : leafNext (fK (Tryz.Es Tryz.m4 (syOf Zw.t111)) 100000 100000 Zw.p0 (Zw.d44.st 8 [[(ch 1001)]]) 2) 8 Zw.d69 [(10, 10), (11, 11), (12, 12), (13, 13), (14, 20)] [(ch 1000)] = some Zw.p0 := by kernel_rfl
noncomputable def Zw.t115 : List SE := ncL [⟨.len, (ch 1000), (.int .i64 0), (ch 1002)⟩,
  ⟨.bin .lss, (.int .i64 2), (ch 1002), (.bool true)⟩,
  ⟨.idx 1, (ch 1000), (.int .i64 2), (.pointer (some ⟨8, 0, none⟩))⟩,
  ⟨.bin .rem, (ch 1001), (.int .i64 5), (ch 1003)⟩,
  ⟨.bin .add, (ch 1003), (.int .i64 5), (ch 1004)⟩,
  ⟨.bin .rem, (ch 1004), (.int .i64 5), (.int .i64 4)⟩]
theorem Zw.i115 : Zw.d44.sub 8 [[(ch 1001)]] (idl 8 Zw.d44.objs) (idA 1) (Zw.d44.st 8 []) = true := by kernel_rfl
theorem Zw.r115 : leafNext (fK (Tryz.Es Tryz.m4 (syOf Zw.t115)) 100000 100000 Zw.p0 (Zw.d44.st 8 [[(ch 1001)]]) 6) 8 Zw.d73 [(10, 10), (11, 11), (12, 12), (13, 13), (14, 42)] [(ch 1000)] = some Zw.p0 := by kernel_rfl
noncomputable def Zw.t119 : List SE := ncL [⟨.len, (ch 1000), (.int .i64 0), (ch 1002)⟩,
  ⟨.bin .lss, (.int .i64 2), (ch 1002), (.bool true)⟩,
  ⟨.idx 1, (ch 1000), (.int .i64 2), (.pointer (some ⟨8, 0, none⟩))⟩,
  ⟨.bin .rem, (ch 1001), (.int .i64 5), (ch 1003)⟩,
  ⟨.bin .add, (ch 1003), (.int .i64 5), (ch 1004)⟩,
  ⟨.bin .rem, (ch 1004), (.int .i64 5), (.int .i64 2)⟩]
theorem Zw.i119 : Zw.d45.sub 8 [[(ch 1001)]] (idl 8 Zw.d45.objs) (idA 1) (Zw.d45.st 8 []) = true := by kernel_rfl
theorem Zw.r119 : leafNext (fK (Tryz.Es Tryz.m4 (syOf Zw.t119)) 100000 100000 Zw.p0 (Zw.d45.st 8 [[(ch 1001)]]) 4) 8 Zw.d76 [(10, 10), (11, 11), (12, 12), (13, 13), (14, 29)] [(ch 1000)] = some Zw.p0 := by kernel_rfl
noncomputable def Zw.t123 : List SE := ncL [⟨.len, (ch 1000), (.int .i64 0), (ch 1002)⟩,
  ⟨.bin .lss, (.int .i64 2), (ch 1002), (.bool true)⟩,
  ⟨.idx 1, (ch 1000), (.int .i64 2), (.pointer (some ⟨8, 0, none⟩))⟩,
  ⟨.bin .rem, (ch 1001), (.int .i64 5), (ch 1003)⟩,
  ⟨.bin .add, (ch 1003), (.int .i64 5), (ch 1004)⟩,
  ⟨.bin .rem, (ch 1004), (.int .i64 5), (.int .i64 0)⟩]
theorem Zw.i123 : Zw.d46.sub 8 [[(ch 1001)]] (idl 8 Zw.d46.objs) (idA 1) (Zw.d46.st 8 []) = true := by kernel_rfl
theorem Zw.r123 : leafNext (fK (Tryz.Es Tryz.m4 (syOf Zw.t123)) 100000 100000 Zw.p0 (Zw.d46.st 8 [[(ch 1001)]]) 2) 8 Zw.d79 [(10, 10), (11, 11), (12, 12), (13, 13), (14, 20)] [(ch 1000)] = some Zw.p0 := by kernel_rfl
noncomputable def Zw.t127 : List SE := ncL [⟨.len, (ch 1000), (.int .i64 0), (ch 1002)⟩,
  ⟨.bin .lss, (.int .i64 2), (ch 1002), (.bool true)⟩,
  ⟨.idx 1, (ch 1000), (.int .i64 2), (.pointer (some ⟨8, 0, none⟩))⟩,
  ⟨.bin .rem, (ch 1001), (.int .i64 5), (ch 1003)⟩,
  ⟨.bin .add, (ch 1003), (.int .i64 5), (ch 1004)⟩,
  ⟨.bin .rem, (ch 1004), (.int .i64 5), (.int .i64 4)⟩]
theorem Zw.i127 : Zw.d46.sub 8 [[(ch 1001)]] (idl 8 Zw.d46.objs) (idA 1) (Zw.d46.st 8 []) = true := by kernel_rfl
theorem Zw.r127 : leafNext (fK (Tryz.Es Tryz.m4 (syOf Zw.t127)) 100000 100000 Zw.p0 (Zw.d46.st 8 [[(ch 1001)]]) 6) 8 Zw.d83 [(10, 10), (11, 11), (12, 12), (13, 13), (14, 42)] [(ch 1000)] = some Zw.p0 := by kernel_rfl
noncomputable def Zw.t131 : List SE := ncL [⟨.len, (ch 1000), (.int .i64 0), (ch 1002)⟩,
  ⟨.bin .lss, (.int .i64 2), (ch 1002), (.bool true)⟩,
  ⟨.idx 1, (ch 1000), (.int .i64 2), (.pointer (some ⟨8, 0, none⟩))⟩,
  ⟨.bin .rem, (ch 1001), (.int .i64 5), (ch 1003)⟩,
  ⟨.bin .add, (ch 1003), (.int .i64 5), (ch 1004)⟩,
  ⟨.bin .rem, (ch 1004), (.int .i64 5), (.int .i64 2)⟩]
theorem Zw.i131 : Zw.d47.sub 8 [[(ch 1001)]] (idl 8 Zw.d47.objs) (idA 1) (Zw.d47.st 8 []) = true := by kernel_rfl
theorem Zw.r131 : leafNext (fK (Tryz.Es Tryz.m4 (syOf Zw.t131)) 100000 100000 Zw.p0 (Zw.d47.st 8 [[(ch 1001)]]) 4) 8 Zw.d86 [(10, 10), (11, 11), (12, 12), (13, 13), (14, 29)] [(ch 1000)] = some Zw.p0 := by kernel_rfl
noncomputable def Zw.t135 : List SE := ncL [⟨.len, (ch 1000), (.int .i64 0), (ch 1002)⟩,
  ⟨.bin .lss, (.int .i64 2), (ch 1002), (.bool true)⟩,
  ⟨.idx 1, (ch 1000), (.int .i64 2), (.pointer (some ⟨8, 0, none⟩))⟩,
  ⟨.bin .rem, (ch 1001), (.int .i64 5), (ch 1003)⟩,
  ⟨.bin .add, (ch 1003), (.int .i64 5), (ch 1004)⟩,
  ⟨.bin .rem, (ch 1004), (.int .i64 5), (.int .i64 0)⟩]
theorem Zw.i135 : Zw.d48.sub 8 [[(ch 1001)]] (idl 8 Zw.d48.objs) (idA 1) (Zw.d48.st 8 []) = true := by kernel_rfl
theorem Zw.r135 : leafNext (fK (Tryz.Es Tryz.m4 (syOf Zw.t135)) 100000 100000 Zw.p0 (Zw.d48.st 8 [[(ch 1001)]]) 2) 8 Zw.d89 [(10, 10), (11, 11), (12, 12), (13, 13), (14, 20)] [(ch 1000)] = some Zw.p0 := by kernel_rfl
noncomputable def Zw.t139 : List SE := ncL [⟨.len, (ch 1000), (.int .i64 0), (ch 1002)⟩,
  ⟨.bin .lss, (.int .i64 2), (ch 1002), (.bool true)⟩,
  ⟨.idx 1, (ch 1000), (.int .i64 2), (.pointer (some ⟨8, 0, none⟩))⟩,
  ⟨.bin .rem, (ch 1001), (.int .i64 5), (ch 1003)⟩,
  ⟨.bin .add, (ch 1003), (.int .i64 5), (ch 1004)⟩,
  ⟨.bin .rem, (ch 1004), (.int .i64 5), (.int .i64 4)⟩]
theorem Zw.i139 : Zw.d48.sub 8 [[(ch 1001)]] (idl 8 Zw.d48.objs) (idA 1) (Zw.d48.st 8 []) = true := by kernel_rfl
theorem Zw.r139 : leafNext (fK (Tryz.Es Tryz.m4 (syOf Zw.t139)) 100000 100000 Zw.p0 (Zw.d48.st 8 [[(ch 1001)]]) 6) 8 Zw.d93 [(10, 10), (11, 11), (12, 12), (13, 13), (14, 42)] [(ch 1000)] = some Zw.p0 := by kernel_rfl
noncomputable def Zw.t143 : List SE := ncL [⟨.len, (ch 1000), (.int .i64 0), (ch 1002)⟩,
  ⟨.bin .lss, (.int .i64 2), (ch 1002), (.bool true)⟩,
  ⟨.idx 1, (ch 1000), (.int .i64 2), (.pointer (some ⟨8, 0, none⟩))⟩,
  ⟨.bin .rem, (ch 1001), (.int .i64 5), (ch 1003)⟩,
  ⟨.bin .add, (ch 1003), (.int .i64 5), (ch 1004)⟩,
  ⟨.bin .rem, (ch 1004), (.int .i64 5), (.int .i64 2)⟩]
theorem Zw.i143 : Zw.d49.sub 8 [[(ch 1001)]] (idl 8 Zw.d49.objs) (idA 1) (Zw.d49.st 8 []) = true := by kernel_rfl
theorem Zw.r143 : leafNext (fK (Tryz.Es Tryz.m4 (syOf Zw.t143)) 100000 100000 Zw.p0 (Zw.d49.st 8 [[(ch 1001)]]) 4) 8 Zw.d96 [(10, 10), (11, 11), (12, 12), (13, 13), (14, 29)] [(ch 1000)] = some Zw.p0 := by kernel_rfl
noncomputable def Zw.t147 : List SE := ncL [⟨.len, (ch 1000), (.int .i64 0), (ch 1002)⟩,
  ⟨.bin .lss, (.int .i64 2), (ch 1002), (.bool true)⟩,
  ⟨.idx 1, (ch 1000), (.int .i64 2), (.pointer (some ⟨8, 0, none⟩))⟩,
  ⟨.bin .rem, (ch 1001), (.int .i64 5), (ch 1003)⟩,
  ⟨.bin .add, (ch 1003), (.int .i64 5), (ch 1004)⟩,
  ⟨.bin .rem, (ch 1004), (.int .i64 5), (.int .i64 0)⟩]
theorem Zw.i147 : Zw.d50.sub 8 [[(ch 1001)]] (idl 8 Zw.d50.objs) (idA 1) (Zw.d50.st 8 []) = true := by kernel_rfl
theorem Zw.r147 : leafNext (fK (Tryz.Es Tryz.m4 (syOf Zw.t147)) 100000 100000 Zw.p0 (Zw.d50.st 8 [[(ch 1001)]]) 2) 8 Zw.d99 [(10, 10), (11, 11), (12, 12), (13, 13), (14, 20)] [(ch 1000)] = some Zw.p0 := by kernel_rfl
noncomputable def Zw.t151 : List SE := ncL [⟨.len, (ch 1000), (.int .i64 0), (ch 1002)⟩,
  ⟨.bin .lss, (.int .i64 2), (ch 1002), (.bool true)⟩,
  ⟨.idx 1, (ch 1000), (.int .i64 2), (.pointer (some ⟨8, 0, none⟩))⟩,
  ⟨.bin .rem, (ch 1001), (.int .i64 5), (ch 1003)⟩,
  ⟨.bin .add, (ch 1003), (.int .i64 5), (ch 1004)⟩,
  ⟨.bin .rem, (ch 1004), (.int .i64 5), (.int .i64 4)⟩]
theorem Zw.i151 : Zw.d50.sub 8 [[(ch 1001)]] (idl 8 Zw.d50.objs) (idA 1) (Zw.d50.st 8 []) = true := by kernel_rfl
theorem Zw.r151 : leafNext (fK (Tryz.Es Tryz.m4 (syOf Zw.t151)) 100000 100000 Zw.p0 (Zw.d50.st 8 [[(ch 1001)]]) 6) 8 Zw.d103 [(10, 10), (11, 11), (12, 12), (13, 13), (14, 42)] [(ch 1000)] = some Zw.p0 := by kernel_rfl
noncomputable def Zw.t155 : List SE := ncL [⟨.len, (ch 1000), (.int .i64 0), (ch 1002)⟩,
  ⟨.bin .lss, (.int .i64 2), (ch 1002), (.bool true)⟩,
  ⟨.idx 1, (ch 1000), (.int .i64 2), (.pointer (some ⟨8, 0, none⟩))⟩,
  ⟨.bin .rem, (ch 1001), (.int .i64 5), (ch 1003)⟩,
  ⟨.bin .add, (ch 1003), (.int .i64 5), (ch 1004)⟩,
  ⟨.bin .rem, (ch 1004), (.int .i64 5), (.int .i64 2)⟩]
theorem Zw.i155 : Zw.d51.sub 8 [[(ch 1001)]] (idl 8 Zw.d51.objs) (idA 1) (Zw.d51.st 8 []) = true := by kernel_rfl
theorem Zw.r155 : leafNext (fK (Tryz.Es Tryz.m4 (syOf Zw.t155)) 100000 100000 Zw.p0 (Zw.d51.st 8 [[(ch 1001)]]) 4) 8 Zw.d106 [(10, 10), (11, 11), (12, 12), (13, 13), (14, 29)] [(ch 1000)] = some Zw.p0 := by kernel_rfl
noncomputable def Zw.t159 : List SE := ncL [⟨.len, (ch 1000), (.int .i64 0), (ch 1002)⟩,
  ⟨.bin .lss, (.int .i64 2), (ch 1002), (.bool true)⟩,
  ⟨.idx 1, (ch 1000), (.int .i64 2), (.pointer (some ⟨8, 0, none⟩))⟩,
  ⟨.bin .rem, (ch 1001), (.int .i64 5), (ch 1003)⟩,
  ⟨.bin .add, (ch 1003), (.int .i64 5), (ch 1004)⟩,
  ⟨.bin .rem, (ch 1004), (.int .i64 5), (.int .i64 0)⟩]
theorem Zw.i159 : Zw.d52.sub 8 [[(ch 1001)]] (idl 8 Zw.d52.objs) (idA 1) (Zw.d52.st 8 []) = true := by kernel_rfl
theorem Zw.r159 : leafNext (fK (Tryz.Es Tryz.m4 (syOf Zw.t159)) 100000 100000 Zw.p0 (Zw.d52.st 8 [[(ch 1001)]]) 2) 8 Zw.d109 [(10, 10), (11, 11), (12, 12), (13, 13), (14, 20)] [(ch 1000)] = some Zw.p0 := by kernel_rfl
noncomputable def Zw.t163 : List SE := ncL [⟨.len, (ch 1000), (.int .i64 0), (ch 1002)⟩,
  ⟨.bin .lss, (.int .i64 2), (ch 1002), (.bool true)⟩,
  ⟨.idx 1, (ch 1000), (.int .i64 2), (.pointer (some ⟨8, 0, none⟩))⟩,
  ⟨.bin .rem, (ch 1001), (.int .i64 5), (ch 1003)⟩,
  ⟨.bin .add, (ch 1003), (.int .i64 5), (ch 1004)⟩,
  ⟨.bin .rem, (ch 1004), (.int .i64 5), (.int .i64 4)⟩]
theorem Zw.i163 : Zw.d52.sub 8 [[(ch 1001)]] (idl 8 Zw.d52.objs) (idA 1) (Zw.d52.st 8 []) = true := by kernel_rfl
theorem Zw.r163 : leafNext (fK (Tryz.Es Tryz.m4 (syOf Zw.t163)) 100000 100000 Zw.p0 (Zw.d52.st 8 [[(ch 1001)]]) 6) 8 Zw.d113 [(10, 10), (11, 11), (12, 12), (13, 13), (14, 42)] [(ch 1000)] = some Zw.p0 := by kernel_rfl
noncomputable def Zw.t167 : List SE := ncL [⟨.len, (ch 1000), (.int .i64 0), (ch 1002)⟩,
  ⟨.bin .lss, (.int .i64 2), (ch 1002), (.bool true)⟩,
  ⟨.idx 1, (ch 1000), (.int .i64 2), (.pointer (some ⟨8, 0, none⟩))⟩,
  ⟨.bin .rem, (ch 1001), (.int .i64 5), (ch 1003)⟩,
  ⟨.bin .add, (ch 1003), (.int .i64 5), (ch 1004)⟩,
  ⟨.bin .rem, (ch 1004), (.int .i64 5), (.int .i64 2)⟩]
theorem Zw.i167 : Zw.d53.sub 8 [[(ch 1001)]] (idl 8 Zw.d53.objs) (idA 1) (Zw.d53.st 8 []) = true := by kernel_rfl
theorem Zw.r167 : leafNext (fK (Tryz.Es Tryz.m4 (syOf Zw.t167)) 100000 100000 Zw.p0 (Zw.d53.st 8 [[(ch 1001)]]) 4) 8 Zw.d116 [(10, 10), (11, 11), (12, 12), (13, 13), (14, 29)] [(ch 1000)] = some Zw.p0 := by kernel_rfl
noncomputable def Zw.t171 : List SE := ncL [⟨.len, (ch 1000), (.int .i64 0), (ch 1002)⟩,
  ⟨.bin .lss, (.int .i64 2), (ch 1002), (.bool true)⟩,
  ⟨.idx 1, (ch 1000), (.int .i64 2), (.pointer (some ⟨8, 0, none⟩))⟩,
  ⟨.bin .rem, (ch 1001), (.int .i64 5), (ch 1003)⟩,
  ⟨.bin .add, (ch 1003), (.int .i64 5), (ch 1004)⟩,
  ⟨.bin .rem, (ch 1004), (.int .i64 5), (.int .i64 0)⟩]
theorem Zw.i171 : Zw.d54.sub 8 [[(ch 1001)]] (idl 8 Zw.d54.objs) (idA 1) (Zw.d54.st 8 []) = true := by kernel_rfl
theorem Zw.r171 : leafNext (fK (Tryz.Es Tryz.m4 (syOf Zw.t171)) 100000 100000 Zw.p0 (Zw.d54.st 8 [[(ch 1001)]]) 2) 8 Zw.d119 [(10, 10), (11, 11), (12, 12), (13, 13), (14, 20)] [(ch 1000)] = some Zw.p0 := by kernel_rfl
noncomputable def Zw.t175 : List SE := ncL [⟨.len, (ch 1000), (.int .i64 0), (ch 1002)⟩,
  ⟨.bin .lss, (.int .i64 2), (ch 1002), (.bool true)⟩,
  ⟨.idx 1, (ch 1000), (.int .i64 2), (.pointer (some ⟨8, 0, none⟩))⟩,
  ⟨.bin .rem, (ch 1001), (.int .i64 5), (ch 1003)⟩,
  ⟨.bin .add, (ch 1003), (.int .i64 5), (ch 1004)⟩,
  ⟨.bin .rem, (ch 1004), (.int .i64 5), (.int .i64 4)⟩]
theorem Zw.i175 : Zw.d54.sub 8 [[(ch 1001)]] (idl 8 Zw.d54.objs) (idA 1) (Zw.d54.st 8 []) = true := by kernel_rfl
theorem Zw.r175 : leafNext (fK (Tryz.Es Tryz.m4 (syOf Zw.t175)) 100000 100000 Zw.p0 (Zw.d54.st 8 [[(ch 1001)]]) 6) 8 Zw.d123 [(10, 10), (11, 11), (12, 12), (13, 13), (14, 42)] [(ch 1000)] = some Zw.p0 := by kernel_rfl
noncomputable def Zw.t179 : List SE := ncL [⟨.len, (ch 1000), (.int .i64 0), (ch 1002)⟩,
  ⟨.bin .lss, (.int .i64 2), (ch 1002), (.bool true)⟩,
  ⟨.idx 1, (ch 1000), (.int .i64 2), (.pointer (some ⟨8, 0, none⟩))⟩,
  ⟨.bin .rem, (ch 1001), (.int .i64 5), (ch 1003)⟩,
  ⟨.bin .add, (ch 1003), (.int .i64 5), (ch 1004)⟩,
  ⟨.bin .rem, (ch 1004), (.int .i64 5), (.int .i64 2)⟩]
theorem Zw.i179 : Zw.d55.sub 8 [[(ch 1001)]] (idl 8 Zw.d55.objs) (idA 1) (Zw.d55.st 8 []) = true := by kernel_rfl
theorem Zw.r179 : leafNext (fK (Tryz.Es Tryz.m4 (syOf Zw.t179)) 100000 100000 Zw.p0 (Zw.d55.st 8 [[(ch 1001)]]) 4) 8 Zw.d126 [(10, 10), (11, 11), (12, 12), (13, 13), (14, 29)] [(ch 1000)] = some Zw.p0 := by kernel_rfl
noncomputable def Zw.t183 : List SE := ncL [⟨.len, (ch 1000), (.int .i64 0), (ch 1002)⟩,
  ⟨.bin .lss, (.int .i64 2), (ch 1002), (.bool true)⟩,
  ⟨.idx 1, (ch 1000), (.int .i64 2), (.pointer (some ⟨8, 0, none⟩))⟩,
  ⟨.bin .rem, (ch 1001), (.int .i64 5), (ch 1003)⟩,
  ⟨.bin .add, (ch 1003), (.int .i64 5), (ch 1004)⟩,
  ⟨.bin .rem, (ch 1004), (.int .i64 5), (.int .i64 0)⟩]
theorem Zw.i183 : Zw.d56.sub 8 [[(ch 1001)]] (idl 8 Zw.d56.objs) (idA 1) (Zw.d56.st 8 []) = true := by kernel_rfl
theorem Zw.r183 : leafNext (fK (Tryz.Es Tryz.m4 (syOf Zw.t183)) 100000 100000 Zw.p0 (Zw.d56.st 8 [[(ch 1001)]]) 2) 8 Zw.d129 [(10, 10), (11, 11), (12, 12), (13, 13), (14, 20)] [(ch 1000)] = some Zw.p0 := by kernel_rfl
noncomputable def Zw.t187 : List SE := ncL [⟨.len, (ch 1000), (.int .i64 0), (ch 1002)⟩,
  ⟨.bin .lss, (.int .i64 2), (ch 1002), (.bool true)⟩,
  ⟨.idx 1, (ch 1000), (.int .i64 2), (.pointer (some ⟨8, 0, none⟩))⟩,
  ⟨.bin .rem, (ch 1001), (.int .i64 5), (ch 1003)⟩,
  ⟨.bin .add, (ch 1003), (.int .i64 5), (ch 1004)⟩,
  ⟨.bin .rem, (ch 1004), (.int .i64 5), (.int .i64 4)⟩]
theorem Zw.i187 : Zw.d56.sub 8 [[(ch 1001)]] (idl 8 Zw.d56.objs) (idA 1) (Zw.d56.st 8 []) = true := by kernel_rfl
theorem Zw.r187 : leafNext (fK (Tryz.Es Tryz.m4 (syOf Zw.t187)) 100000 100000 Zw.p0 (Zw.d56.st 8 [[(ch 1001)]]) 6) 8 Zw.d133 [(10, 10), (11, 11), (12, 12), (13, 13), (14, 42)] [(ch 1000)] = some Zw.p0 := by kernel_rfl
noncomputable def Zw.t191 : List SE := ncL [⟨.len, (ch 1000), (.int .i64 0), (ch 1002)⟩,
  ⟨.bin .lss, (.int .i64 2), (ch 1002), (.bool true)⟩,
  ⟨.idx 1, (ch 1000), (.int .i64 2), (.pointer (some ⟨8, 0, none⟩))⟩,
  ⟨.bin .rem, (ch 1001), (.int .i64 5), (ch 1003)⟩,
  ⟨.bin .add, (ch 1003), (.int .i64 5), (ch 1004)⟩,
  ⟨.bin .rem, (ch 1004), (.int .i64 5), (.int .i64 2)⟩]
theorem Zw.i191 : Zw.d57.sub 8 [[(ch 1001)]] (idl 8 Zw.d57.objs) (idA 1) (Zw.d57.st 8 []) = true := by kernel_rfl
theorem Zw.r191 : leafNext (fK (Tryz.Es Tryz.m4 (syOf Zw.t191)) 100000 100000 Zw.p0 (Zw.d57.st 8 [[(ch 1001)]]) 4) 8 Zw.d136 [(10, 10), (11, 11), (12, 12), (13, 13), (14, 29)] [(ch 1000)] = some Zw.p0 := by kernel_rfl
noncomputable def Zw.t195 : List SE := ncL [⟨.len, (ch 1000), (.int .i64 0), (ch 1002)⟩,
  ⟨.bin .lss, (.int .i64 2), (ch 1002), (.bool true)⟩,
  ⟨.idx 1, (ch 1000), (.int .i64 2), (.pointer (some ⟨8, 0, none⟩))⟩,
  ⟨.bin .rem, (ch 1001), (.int .i64 5), (ch 1003)⟩,
  ⟨.bin .add, (ch 1003), (.int .i64 5), (ch 1004)⟩,
  ⟨.bin .rem, (ch 1004), (.int .i64 5), (.int .i64 0)⟩]
theorem Zw.i195 : Zw.d58.sub 8 [[(ch 1001)]] (idl 8 Zw.d58.objs) (idA 1) (Zw.d58.st 8 []) = true := by kernel_rfl
theorem Zw.r195 : leafNext (fK (Tryz.Es Tryz.m4 (syOf Zw.t195)) 100000 100000 Zw.p0 (Zw.d58.st 8 [[(ch 1001)]]) 2) 8 Zw.d139 [(10, 10), (11, 11), (12, 12), (13, 13), (14, 20)] [(ch 1000)] = some Zw.p0 := by kernel_rfl
noncomputable def Zw.t199 : List SE := ncL [⟨.len, (ch 1000), (.int .i64 0), (ch 1002)⟩,
  ⟨.bin .lss, (.int .i64 2), (ch 1002), (.bool true)⟩,
  ⟨.idx 1, (ch 1000), (.int .i64 2), (.pointer (some ⟨8, 0, none⟩))⟩,
  ⟨.bin .rem, (ch 1001), (.int .i64 5), (ch 1003)⟩,
  ⟨.bin .add, (ch 1003), (.int .i64 5), (ch 1004)⟩,
  ⟨.bin .rem, (ch 1004), (.int .i64 5), (.int .i64 4)⟩]
theorem Zw.i199 : Zw.d58.sub 8 [[(ch 1001)]] (idl 8 Zw.d58.objs) (idA 1) (Zw.d58.st 8 []) = true := by kernel_rfl
theorem Zw.r199 : leafNext (fK (Tryz.Es Tryz.m4 (syOf Zw.t199)) 100000 100000 Zw.p0 (Zw.d58.st 8 [[(ch 1001)]]) 6) 8 Zw.d143 [(10, 10), (11, 11), (12, 12), (13, 13), (14, 42)] [(ch 1000)] = some Zw.p0 := by kernel_rfl
noncomputable def Zw.t203 : List SE := ncL [⟨.len, (ch 1000), (.int .i64 0), (ch 1002)⟩,
  ⟨.bin .lss, (.int .i64 2), (ch 1002), (.bool true)⟩,
  ⟨.idx 1, (ch 1000), (.int .i64 2), (.pointer (some ⟨8, 0, none⟩))⟩,
  ⟨.bin .rem, (ch 1001), (.int .i64 5), (ch 1003)⟩,
  ⟨.bin .add, (ch 1003), (.int .i64 5), (ch 1004)⟩,
  ⟨.bin .rem, (ch 1004), (.int .i64 5), (.int .i64 2)⟩]
theorem Zw.i203 : Zw.d59.sub 8 [[(ch 1001)]] (idl 8 Zw.d59.objs) (idA 1) (Zw.d59.st 8 []) = true := by kernel_rfl
theorem Zw.r203 : leafNext (fK (Tryz.Es Tryz.m4 (syOf Zw.t203)) 100000 100000 Zw.p0 (Zw.d59.st 8 [[(ch 1001)]]) 4) 8 Zw.d146 [(10, 10), (11, 11), (12, 12), (13, 13), (14, 29)] [(ch 1000)] = some Zw.p0 := by kernel_rfl
noncomputable def Zw.t207 : List SE := ncL [⟨.len, (ch 1000), (.int .i64 0), (ch 1002)⟩,
  ⟨.bin .lss, (.int .i64 2), (ch 1002), (.bool true)⟩,
  ⟨.idx 1, (ch 1000), (.int .i64 2), (.pointer (some ⟨8, 0, none⟩))⟩,
  ⟨.bin .rem, (ch 1001), (.int .i64 5), (ch 1003)⟩,
  ⟨.bin .add, (ch 1003), (.int .i64 5), (ch 1004)⟩,
  ⟨.bin .rem, (ch 1004), (.int .i64 5), (.int .i64 0)⟩]
theorem Zw.i207 : Zw.d60.sub 8 [[(ch 1001)]] (idl 8 Zw.d60.objs) (idA 1) (Zw.d60.st 8 []) = true := by kernel_rfl
theorem Zw.r207 : leafNext (fK (Tryz.Es Tryz.m4 (syOf Zw.t207)) 100000 100000 Zw.p0 (Zw.d60.st 8 [[(ch 1001)]]) 2) 8 Zw.d149 [(10, 10), (11, 11), (12, 12), (13, 13), (14, 20)] [(ch 1000)] = some Zw.p0 := by kernel_rfl
noncomputable def Zw.t211 : List SE := ncL [⟨.len, (ch 1000), (.int .i64 0), (ch 1002)⟩,
  ⟨.bin .lss, (.int .i64 2), (ch 1002), (.bool true)⟩,
  ⟨.idx 1, (ch 1000), (.int .i64 2), (.pointer (some ⟨8, 0, none⟩))⟩,
  ⟨.bin .rem, (ch 1001), (.int .i64 5), (ch 1003)⟩,
  ⟨.bin .add, (ch 1003), (.int .i64 5), (ch 1004)⟩,
  ⟨.bin .rem, (ch 1004), (.int .i64 5), (.int .i64 4)⟩]
theorem Zw.i211 : Zw.d60.sub 8 [[(ch 1001)]] (idl 8 Zw.d60.objs) (idA 1) (Zw.d60.st 8 []) = true := by kernel_rfl
theorem Zw.r211 : leafNext (fK (Tryz.Es Tryz.m4 (syOf Zw.t211)) 100000 100000 Zw.p0 (Zw.d60.st 8 [[(ch 1001)]]) 6) 8 Zw.d153 [(10, 10), (11, 11), (12, 12), (13, 13), (14, 42)] [(ch 1000)] = some Zw.p0 := by kernel_rfl
noncomputable def Zw.t215 : List SE := ncL [⟨.len, (ch 1000), (.int .i64 0), (ch 1002)⟩,
  ⟨.bin .lss, (.int .i64 2), (ch 1002), (.bool true)⟩,
  ⟨.idx 1, (ch 1000), (.int .i64 2), (.pointer (some ⟨8, 0, none⟩))⟩,
  ⟨.bin .rem, (ch 1001), (.int .i64 5), (ch 1003)⟩,
  ⟨.bin .add, (ch 1003), (.int .i64 5), (ch 1004)⟩,
  ⟨.bin .rem, (ch 1004), (.int .i64 5), (.int .i64 2)⟩]
theorem Zw.i215 : Zw.d61.sub 8 [[(ch 1001)]] (idl 8 Zw.d61.objs) (idA 1) (Zw.d61.st 8 []) = true := by kernel_rfl
theorem Zw.r215 : leafNext (fK (Tryz.Es Tryz.m4 (syOf Zw.t215)) 100000 100000 Zw.p0 (Zw.d61.st 8 [[(ch 1001)]]) 4) 8 Zw.d156 [(10, 10), (11, 11), (12, 12), (13, 13), (14, 29)] [(ch 1000)] = some Zw.p0 := by kernel_rfl
noncomputable def Zw.t219 : List SE := ncL [⟨.len, (ch 1000), (.int .i64 0), (ch 1002)⟩,
  ⟨.bin .lss, (.int .i64 2), (ch 1002), (.bool true)⟩,
  ⟨.idx 1, (ch 1000), (.int .i64 2), (.pointer (some ⟨8, 0, none⟩))⟩,
  ⟨.bin .rem, (ch 1001), (.int .i64 5), (ch 1003)⟩,
  ⟨.bin .add, (ch 1003), (.int .i64 5), (ch 1004)⟩,
  ⟨.bin .rem, (ch 1004), (.int .i64 5), (.int .i64 0)⟩]
theorem Zw.i219 : Zw.d62.sub 8 [[(ch 1001)]] (idl 8 Zw.d62.objs) (idA 1) (Zw.d62.st 8 []) = true := by kernel_rfl
theorem Zw.r219 : leafNext (fK (Tryz.Es Tryz.m4 (syOf Zw.t219)) 100000 100000 Zw.p0 (Zw.d62.st 8 [[(ch 1001)]]) 2) 8 Zw.d159 [(10, 10), (11, 11), (12, 12), (13, 13), (14, 20)] [(ch 1000)] = some Zw.p0 := by kernel_rfl
noncomputable def Zw.t223 : List SE := ncL [⟨.len, (ch 1000), (.int .i64 0), (ch 1002)⟩,
  ⟨.bin .lss, (.int .i64 2), (ch 1002), (.bool true)⟩,
  ⟨.idx 1, (ch 1000), (.int .i64 2), (.pointer (some ⟨8, 0, none⟩))⟩,
  ⟨.bin .rem, (ch 1001), (.int .i64 5), (ch 1003)⟩,
  ⟨.bin .add, (ch 1003), (.int .i64 5), (ch 1004)⟩,
  ⟨.bin .rem, (ch 1004), (.int .i64 5), (.int .i64 4)⟩]
theorem Zw.i223 : Zw.d62.sub 8 [[(ch 1001)]] (idl 8 Zw.d62.objs) (idA 1) (Zw.d62.st 8 []) = true := by kernel_rfl
theorem Zw.r223 : leafNext (fK (Tryz.Es Tryz.m4 (syOf Zw.t223)) 100000 100000 Zw.p0 (Zw.d62.st 8 [[(ch 1001)]]) 6) 8 Zw.d163 [(10, 10), (11, 11), (12, 12), (13, 13), (14, 42)] [(ch 1000)] = some Zw.p0 := by kernel_rfl
noncomputable def Zw.t227 : List SE := ncL [⟨.len, (ch 1000), (.int .i64 0), (ch 1002)⟩,
  ⟨.bin .lss, (.int .i64 2), (ch 1002), (.bool true)⟩,
  ⟨.idx 1, (ch 1000), (.int .i64 2), (.pointer (some ⟨8, 0, none⟩))⟩,
  ⟨.bin .rem, (ch 1001), (.int .i64 5), (ch 1003)⟩,
  ⟨.bin .add, (ch 1003), (.int .i64 5), (ch 1004)⟩,
  ⟨.bin .rem, (ch 1004), (.int .i64 5), (.int .i64 2)⟩]
theorem Zw.i227 : Zw.d63.sub 8 [[(ch 1001)]] (idl 8 Zw.d63.objs) (idA 1) (Zw.d63.st 8 []) = true := by kernel_rfl
theorem Zw.r227 : leafNext (fK (Tryz.Es Tryz.m4 (syOf Zw.t227)) 100000 100000 Zw.p0 (Zw.d63.st 8 [[(ch 1001)]]) 4) 8 Zw.d166 [(10, 10), (11, 11), (12, 12), (13, 13), (14, 29)] [(ch 1000)] = some Zw.p0 := by kernel_rfl
noncomputable def Zw.t231 : List SE := ncL [⟨.len, (ch 1000), (.int .i64 0), (ch 1002)⟩,
  ⟨.bin .lss, (.int .i64 2), (ch 1002), (.bool true)⟩,
  ⟨.idx 1, (ch 1000), (.int .i64 2), (.pointer (some ⟨8, 0, none⟩))⟩,
  ⟨.bin .rem, (ch 1001), (.int .i64 5), (ch 1003)⟩,
  ⟨.bin .add, (ch 1003), (.int .i64 5), (ch 1004)⟩,
  ⟨.bin .rem, (ch 1004), (.int .i64 5), (.int .i64 0)⟩]
theorem Zw.i231 : Zw.d64.sub 8 [[(ch 1001)]] (idl 8 Zw.d64.objs) (idA 1) (Zw.d64.st 8 []) = true := by kernel_rfl
theorem Zw.r231 : leafNext (fK (Tryz.Es Tryz.m4 (syOf Zw.t231)) 100000 100000 Zw.p0 (Zw.d64.st 8 [[(ch 1001)]]) 2) 8 Zw.d169 [(10, 10), (11, 11), (12, 12), (13, 13), (14, 20)] [(ch 1000)] = some Zw.p0 := by kernel_rfl
noncomputable def Zw.t235 : List SE := ncL [⟨.len, (ch 1000), (.int .i64 0), (ch 1002)⟩,
  ⟨.bin .lss, (.int .i64 2), (ch 1002), (.bool true)⟩,
  ⟨.idx 1, (ch 1000), (.int .i64 2), (.pointer (some ⟨8, 0, none⟩))⟩,
  ⟨.bin .rem, (ch 1001), (.int .i64 5), (ch 1003)⟩,
  ⟨.bin .add, (ch 1003), (.int .i64 5), (ch 1004)⟩,
  ⟨.bin .rem, (ch 1004), (.int .i64 5), (.int .i64 4)⟩]
theorem Zw.i235 : Zw.d64.sub 8 [[(ch 1001)]] (idl 8 Zw.d64.objs) (idA 1) (Zw.d64.st 8 []) = true := by kernel_rfl
theorem Zw.r235 : leafNext (fK (Tryz.Es Tryz.m4 (syOf Zw.t235)) 100000 100000 Zw.p0 (Zw.d64.st 8 [[(ch 1001)]]) 6) 8 Zw.d173 [(10, 10), (11, 11), (12, 12), (13, 13), (14, 42)] [(ch 1000)] = some Zw.p0 := by kernel_rfl
noncomputable def Zw.t239 : List SE := ncL [⟨.len, (ch 1000), (.int .i64 0), (ch 1002)⟩,
  ⟨.bin .lss, (.int .i64 2), (ch 1002), (.bool true)⟩,
  ⟨.idx 1, (ch 1000), (.int .i64 2), (.pointer (some ⟨8, 0, none⟩))⟩,
  ⟨.bin .rem, (ch 1001), (.int .i64 5), (ch 1003)⟩,
  ⟨.bin .add, (ch 1003), (.int .i64 5), (ch 1004)⟩,
  ⟨.bin .rem, (ch 1004), (.int .i64 5), (.int .i64 2)⟩]
theorem Zw.i239 : Zw.d65.sub 8 [[(ch 1001)]] (idl 8 Zw.d65.objs) (idA 1) (Zw.d65.st 8 []) = true := by kernel_rfl
theorem Zw.r239 : leafNext (fK (Tryz.Es Tryz.m4 (syOf Zw.t239)) 100000 100000 Zw.p0 (Zw.d65.st 8 [[(ch 1001)]]) 4) 8 Zw.d176 [(10, 10), (11, 11), (12, 12), (13, 13), (14, 29)] [(ch 1000)] = some Zw.p0 := by kernel_rfl
noncomputable def Zw.t243 : List SE := ncL [⟨.len, (ch 1000), (.int .i64 0), (ch 1002)⟩,
  ⟨.bin .lss, (.int .i64 2), (ch 1002), (.bool true)⟩,
  ⟨.idx 1, (ch 1000), (.int .i64 2), (.pointer (some ⟨8, 0, none⟩))⟩,
  ⟨.bin .rem, (ch 1001), (.int .i64 5), (ch 1003)⟩,
  ⟨.bin .add, (ch 1003), (.int .i64 5), (ch 1004)⟩,
  ⟨.bin .rem, (ch 1004), (.int .i64 5), (.int .i64 0)⟩]
theorem Zw.i243 : Zw.d66.sub 8 [[(ch 1001)]] (idl 8 Zw.d66.objs) (idA 1) (Zw.d66.st 8 []) = true := by kernel_rfl
theorem Zw.r243 : leafNext (fK (Tryz.Es Tryz.m4 (syOf Zw.t243)) 100000 100000 Zw.p0 (Zw.d66.st 8 [[(ch 1001)]]) 2) 8 Zw.d179 [(10, 10), (11, 11), (12, 12), (13, 13), (14, 20)] [(ch 1000)] = some Zw.p0 := by kernel_rfl
noncomputable def Zw.t247 : List SE := ncL [⟨.len, (ch 1000), (.int .i64 0), (ch 1002)⟩,
  ⟨.bin .lss, (.int .i64 2), (ch 1002), (.bool true)⟩,
  ⟨.idx 1, (ch 1000), (.int .i64 2), (.pointer (some ⟨8, 0, none⟩))⟩,
  ⟨.bin .rem, (ch 1001), (.int .i64 5), (ch 1003)⟩,
  ⟨.bin .add, (ch 1003), (.int .i64 5), (ch 1004)⟩,
  ⟨.bin .rem, (ch 1004), (.int .i64 5), (.int .i64 4)⟩]
theorem Zw.i247 : Zw.d66.sub 8 [[(ch 1001)]] (idl 8 Zw.d66.objs) (idA 1) (Zw.d66.st 8 []) = true := by kernel_rfl
theorem Zw.r247 : leafNext (fK (Tryz.Es Tryz.m4 (syOf Zw.t247)) 100000 100000 Zw.p0 (Zw.d66.st 8 [[(ch 1001)]]) 6) 8 Zw.d183 [(10, 10), (11, 11), (12, 12), (13, 13), (14, 42)] [(ch 1000)] = some Zw.p0 := by kernel_rfl
noncomputable def Zw.t251 : List SE := ncL [⟨.len, (ch 1000), (.int .i64 0), (ch 1002)⟩,
  ⟨.bin .lss, (.int .i64 2), (ch 1002), (.bool true)⟩,
  ⟨.idx 1, (ch 1000), (.int .i64 2), (.pointer (some ⟨8, 0, none⟩))⟩,
  ⟨.bin .rem, (ch 1001), (.int .i64 5), (ch 1003)⟩,
  ⟨.bin .add, (ch 1003), (.int .i64 5), (ch 1004)⟩,
  ⟨.bin .rem, (ch 1004), (.int .i64 5), (.int .i64 2)⟩]
theorem Zw.i251 : Zw.d67.sub 8 [[(ch 1001)]] (idl 8 Zw.d67.objs) (idA 1) (Zw.d67.st 8 []) = true := by kernel_rfl
theorem Zw.r251 : leafNext (fK (Tryz.Es Tryz.m4 (syOf Zw.t251)) 100000 100000 Zw.p0 (Zw.d67.st 8 [[(ch 1001)]]) 4) 8 Zw.d186 [(10, 10), (11, 11), (12, 12), (13, 13), (14, 29)] [(ch 1000)] = some Zw.p0 := by kernel_rfl
noncomputable def Zw.t255 : List SE := ncL [⟨.len, (ch 1000), (.int .i64 0), (ch 1002)⟩,
  ⟨.bin .lss, (.int .i64 2), (ch 1002), (.bool true)⟩,
  ⟨.idx 1, (ch 1000), (.int .i64 2), (.pointer (some ⟨8, 0, none⟩))⟩,
  ⟨.bin .rem, (ch 1001), (.int .i64 5), (ch 1003)⟩,
  ⟨.bin .add, (ch 1003), (.int .i64 5), (ch 1004)⟩,
  ⟨.bin .rem, (ch 1004), (.int .i64 5), (.int .i64 0)⟩]
theorem Zw.i255 : Zw.d68.sub 8 [[(ch 1001)]] (idl 8 Zw.d68.objs) (idA 1) (Zw.d68.st 8 []) = true := by kernel_rfl
theorem Zw.r255 : leafNext (fK (Tryz.Es Tryz.m4 (syOf Zw.t255)) 100000 100000 Zw.p0 (Zw.d68.st 8 [[(ch 1001)]]) 2) 8 Zw.d189 [(10, 10), (11, 11), (12, 12), (13, 13), (14, 20)] [(ch 1000)] = some Zw.p0 := by kernel_rfl
noncomputable def Zw.t259 : List SE := ncL [⟨.len, (ch 1000), (.int .i64 0), (ch 1002)⟩,
  ⟨.bin .lss, (.int .i64 2), (ch 1002), (.bool true)⟩,
  ⟨.idx 1, (ch 1000), (.int .i64 2), (.pointer (some ⟨8, 0, none⟩))⟩,
  ⟨.bin .rem, (ch 1001), (.int .i64 5), (ch 1003)⟩,
  ⟨.bin .add, (ch 1003), (.int .i64 5), (ch 1004)⟩,
  ⟨.bin .rem, (ch 1004), (.int .i64 5), (.int .i64 4)⟩]
theorem Zw.i259 : Zw.d68.sub 8 [[(ch 1001)]] (idl 8 Zw.d68.objs) (idA 1) (Zw.d68.st 8 []) = true := by kernel_rfl
theorem Zw.r259 : leafNext (fK (Tryz.Es Tryz.m4 (syOf Zw.t259)) 100000 100000 Zw.p0 (Zw.d68.st 8 [[(ch 1001)]]) 6) 8 Zw.d193 [(10, 10), (11, 11), (12, 12), (13, 13), (14, 42)] [(ch 1000)] = some Zw.p0 := by kernel_rfl
noncomputable def Zw.t263 : List SE := ncL []
theorem Zw.i263 : Zw.d71.sub 8 [] (idl 8 Zw.d71.objs) (idA 1) (Zw.d71.st 8 []) = true := by kernel_rfl
theorem Zw.r263 : leafFin (Tryz.Es Tryz.m4 (syOf Zw.t263)) Tryz.f6 (fK (Tryz.Es Tryz.m4 (syOf Zw.t263)) 100000 100000 Zw.p0 (Zw.d71.st 8 []) 8) = true := by kernel_rfl
noncomputable def Zw.t267 : List SE := ncL []
theorem Zw.i267 : Zw.d75.sub 8 [] (idl 8 Zw.d75.objs) (idA 1) (Zw.d75.st 8 []) = true := by kernel_rfl
theorem Zw.r267 : leafFin (Tryz.Es Tryz.m4 (syOf Zw.t267)) Tryz.f6 (fK (Tryz.Es Tryz.m4 (syOf Zw.t267)) 100000 100000 Zw.p0 (Zw.d75.st 8 []) 8) = true := by kernel_rfl
noncomputable def Zw.t271 : List SE := ncL []
theorem Zw.i271 : Zw.d79.sub 8 [] (idl 8 Zw.d79.objs) (idA 1) (Zw.d79.st 8 []) = true := by kernel_rfl
theorem Zw.r271 : leafFin (Tryz.Es Tryz.m4 (syOf Zw.t271)) Tryz.f6 (fK (Tryz.Es Tryz.m4 (syOf Zw.t271)) 100000 100000 Zw.p0 (Zw.d79.st 8 []) 8) = true := by kernel_rfl
noncomputable def Zw.t275 : List SE := ncL []
theorem Zw.i275 : Zw.d83.sub 8 [] (idl 8 Zw.d83.objs) (idA 1) (Zw.d83.st 8 []) = true := by kernel_rfl
theorem Zw.r275 : leafFin (Tryz.Es Tryz.m4 (syOf Zw.t275)) Tryz.f6 (fK (Tryz.Es Tryz.m4 (syOf Zw.t275)) 100000 100000 Zw.p0 (Zw.d83.st 8 []) 12) = true := by kernel_rfl
noncomputable def Zw.t279 : List SE := ncL []
theorem Zw.i279 : Zw.d87.sub 8 [] (idl 8 Zw.d87.objs) (idA 1) (Zw.d87.st 8 []) = true := by kernel_rfl
theorem Zw.r279 : leafFin (Tryz.Es Tryz.m4 (syOf Zw.t279)) Tryz.f6 (fK (Tryz.Es Tryz.m4 (syOf Zw.t279)) 100000 100000 Zw.p0 (Zw.d87.st 8 []) 12) = true := by kernel_rfl
noncomputable def Zw.t283 : List SE := ncL []
theorem Zw.i283 : Zw.d91.sub 8 [] (idl 8 Zw.d91.objs) (idA 1) (Zw.d91.st 8 []) = true := by kernel_rfl
theorem Zw.r283 : leafFin (Tryz.Es Tryz.m4 (syOf Zw.t283)) Tryz.f6 (fK (Tryz.Es Tryz.m4 (syOf Zw.t283)) 100000 100000 Zw.p0 (Zw.d91.st 8 []) 12) = true := by kernel_rfl
noncomputable def Zw.t287 : List SE := ncL []
theorem Zw.i287 : Zw.d95.sub 8 [] (idl 8 Zw.d95.objs) (idA 1) (Zw.d95.st 8 []) = true := by kernel_rfl
theorem Zw.r287 : leafFin (Tryz.Es Tryz.m4 (syOf Zw.t287)) Tryz.f6 (fK (Tryz.Es Tryz.m4 (syOf Zw.t287)) 100000 100000 Zw.p0 (Zw.d95.st 8 []) 8) = true := by kernel_rfl
noncomputable def Zw.t291 : List SE := ncL []
theorem Zw.i291 : Zw.d99.sub 8 [] (idl 8 Zw.d99.objs) (idA 1) (Zw.d99.st 8 []) = true := by kernel_rfl
theorem Zw.r291 : leafFin (Tryz.Es Tryz.m4 (syOf Zw.t291)) Tryz.f6 (fK (Tryz.Es Tryz.m4 (syOf Zw.t291)) 100000 100000 Zw.p0 (Zw.d99.st 8 []) 8) = true := by kernel_rfl
noncomputable def Zw.t295 : List SE := ncL []
theorem Zw.i295 : Zw.d103.sub 8 [] (idl 8 Zw.d103.objs) (idA 1) (Zw.d103.st 8 []) = true := by kernel_rfl
theorem Zw.r295 : leafFin (Tryz.Es Tryz.m4 (syOf Zw.t295)) Tryz.f6 (fK (Tryz.Es Tryz.m4 (syOf Zw.t295)) 100000 100000 Zw.p0 (Zw.d103.st 8 []) 12) = true := by kernel_rfl
noncomputable def Zw.t299 : List SE := ncL []
theorem Zw.i299 : Zw.d107.sub 8 [] (idl 8 Zw.d107.objs) (idA 1) (Zw.d107.st 8 []) = true := by kernel_rfl
theorem Zw.r299 : leafFin (Tryz.Es Tryz.m4 (syOf Zw.t299)) Tryz.f6 (fK (Tryz.Es Tryz.m4 (syOf Zw.t299)) 100000 100000 Zw.p0 (Zw.d107.st 8 []) 12) = true := by kernel_rfl
noncomputable def Zw.t303 : List SE := ncL []
theorem Zw.i303 : Zw.d111.sub 8 [] (idl 8 Zw.d111.objs) (idA 1) (Zw.d111.st 8 []) = true := by kernel_rfl
theorem Zw.r303 : leafFin (Tryz.Es Tryz.m4 (syOf Zw.t303)) Tryz.f6 (fK (Tryz.Es Tryz.m4 (syOf Zw.t303)) 100000 100000 Zw.p0 (Zw.d111.st 8 []) 12) = true := by kernel_rfl
noncomputable def Zw.t307 : List SE := ncL []
theorem Zw.i307 : Zw.d115.sub 8 [] (idl 8 Zw.d115.objs) (idA 1) (Zw.d115.st 8 []) = true := by kernel_rfl
theorem Zw.r307 : leafFin (Tryz.Es Tryz.m4 (syOf Zw.t307)) Tryz.f6 (fK (Tryz.Es Tryz.m4 (syOf Zw.t307)) 100000 100000 Zw.p0 (Zw.d115.st 8 []) 12) = true := by kernel_rfl
noncomputable def Zw.t311 : List SE := ncL []
theorem Zw.i311 : Zw.d119.sub 8 [] (idl 8 Zw.d119.objs) (idA 1) (Zw.d119.st 8 []) = true := by kernel_rfl
theorem Zw.r311 : leafFin (Tryz.Es Tryz.m4 (syOf Zw.t311)) Tryz.f6 (fK (Tryz.Es Tryz.m4 (syOf Zw.t311)) 100000 100000 Zw.p0 (Zw.d119.st 8 []) 8) = true := by kernel_rfl
noncomputable def Zw.t315 : List SE := ncL []
theorem Zw.i315 : Zw.d123.sub 8 [] (idl 8 Zw.d123.objs) (idA 1) (Zw.d123.st 8 []) = true := by kernel_rfl
theorem Zw.r315 : leafFin (Tryz.Es Tryz.m4 (syOf Zw.t315)) Tryz.f6 (fK (Tryz.Es Tryz.m4 (syOf Zw.t315)) 100000 100000 Zw.p0 (Zw.d123.st 8 []) 12) = true := by kernel_rfl
noncomputable def Zw.t319 : List SE := ncL []
theorem Zw.i319 : Zw.d127.sub 8 [] (idl 8 Zw.d127.objs) (idA 1) (Zw.d127.st 8 []) = true := by kernel_rfl
theorem Zw.r319 : leafFin (Tryz.Es Tryz.m4 (syOf Zw.t319)) Tryz.f6 (fK (Tryz.Es Tryz.m4 (syOf Zw.t319)) 100000 100000 Zw.p0 (Zw.d127.st 8 []) 12) = true := by kernel_rfl
noncomputable def Zw.t323 : List SE := ncL []
theorem Zw.i323 : Zw.d131.sub 8 [] (idl 8 Zw.d131.objs) (idA 1) (Zw.d131.st 8 []) = true := by kernel_rfl
theorem Zw.r323 : leafFin (Tryz.Es Tryz.m4 (syOf Zw.t323)) Tryz.f6 (fK (Tryz.Es Tryz.m4 (syOf Zw.t323)) 100000 100000 Zw.p0 (Zw.d131.st 8 []) 12) = true := by kernel_rfl
noncomputable def Zw.t327 : List SE := ncL []
theorem Zw.i327 : Zw.d135.sub 8 [] (idl 8 Zw.d135.objs) (idA 1) (Zw.d135.st 8 []) = true := by kernel_rfl
theorem Zw.r327 : leafFin (Tryz.Es Tryz.m4 (syOf Zw.t327)) Tryz.f6 (fK (Tryz.Es Tryz.m4 (syOf Zw.t327)) 100000 100000 Zw.p0 (Zw.d135.st 8 []) 12) = true := by kernel_rfl
noncomputable def Zw.t331 : List SE := ncL []
theorem Zw.i331 : Zw.d139.sub 8 [] (idl 8 Zw.d139.objs) (idA 1) (Zw.d139.st 8 []) = true := by kernel_rfl
theorem Zw.r331 : leafFin (Tryz.Es Tryz.m4 (syOf Zw.t331)) Tryz.f6 (fK (Tryz.Es Tryz.m4 (syOf Zw.t331)) 100000 100000 Zw.p0 (Zw.d139.st 8 []) 12) = true := by kernel_rfl
noncomputable def Zw.t335 : List SE := ncL []
theorem Zw.i335 : Zw.d143.sub 8 [] (idl 8 Zw.d143.objs) (idA 1) (Zw.d143.st 8 []) = true := by kernel_rfl
theorem Zw.r335 : leafFin (Tryz.Es Tryz.m4 (syOf Zw.t335)) Tryz.f6 (fK (Tryz.Es Tryz.m4 (syOf Zw.t335)) 100000 100000 Zw.p0 (Zw.d143.st 8 []) 16) = true := by kernel_rfl
noncomputable def Zw.t339 : List SE := ncL []
theorem Zw.i339 : Zw.d147.sub 8 [] (idl 8 Zw.d147.objs) (idA 1) (Zw.d147.st 8 []) = true := by kernel_rfl
theorem Zw.r339 : leafFin (Tryz.Es Tryz.m4 (syOf Zw.t339)) Tryz.f6 (fK (Tryz.Es Tryz.m4 (syOf Zw.t339)) 100000 100000 Zw.p0 (Zw.d147.st 8 []) 12) = true := by kernel_rfl
noncomputable def Zw.t343 : List SE := ncL []
theorem Zw.i343 : Zw.d151.sub 8 [] (idl 8 Zw.d151.objs) (idA 1) (Zw.d151.st 8 []) = true := by kernel_rfl
theorem Zw.r343 : leafFin (Tryz.Es Tryz.m4 (syOf Zw.t343)) Tryz.f6 (fK (Tryz.Es Tryz.m4 (syOf Zw.t343)) 100000 100000 Zw.p0 (Zw.d151.st 8 []) 12) = true := by kernel_rfl
noncomputable def Zw.t347 : List SE := ncL []
theorem Zw.i347 : Zw.d155.sub 8 [] (idl 8 Zw.d155.objs) (idA 1) (Zw.d155.st 8 []) = true := by kernel_rfl
theorem Zw.r347 : leafFin (Tryz.Es Tryz.m4 (syOf Zw.t347)) Tryz.f6 (fK (Tryz.Es Tryz.m4 (syOf Zw.t347)) 100000 100000 Zw.p0 (Zw.d155.st 8 []) 12) = true := by kernel_rfl
noncomputable def Zw.t351 : List SE := ncL []
theorem Zw.i351 : Zw.d159.sub 8 [] (idl 8 Zw.d159.objs) (idA 1) (Zw.d159.st 8 []) = true := by kernel_rfl
theorem Zw.r351 : leafFin (Tryz.Es Tryz.m4 (syOf Zw.t351)) Tryz.f6 (fK (Tryz.Es Tryz.m4 (syOf Zw.t351)) 100000 100000 Zw.p0 (Zw.d159.st 8 []) 12) = true := by kernel_rfl
noncomputable def Zw.t355 : List SE := ncL []
theorem Zw.i355 : Zw.d163.sub 8 [] (idl 8 Zw.d163.objs) (idA 1) (Zw.d163.st 8 []) = true := by kernel_rfl
theorem Zw.r355 : leafFin (Tryz.Es Tryz.m4 (syOf Zw.t355)) Tryz.f6 (fK (Tryz.Es Tryz.m4 (syOf Zw.t355)) 100000 100000 Zw.p0 (Zw.d163.st 8 []) 16) = true := by kernel_rfl
noncomputable def Zw.t359 : List SE := ncL []
theorem Zw.i359 : Zw.d167.sub 8 [] (idl 8 Zw.d167.objs) (idA 1) (Zw.d167.st 8 []) = true := by kernel_rfl
theorem Zw.r359 : leafFin (Tryz.Es Tryz.m4 (syOf Zw.t359)) Tryz.f6 (fK (Tryz.Es Tryz.m4 (syOf Zw.t359)) 100000 100000 Zw.p0 (Zw.d167.st 8 []) 16) = true := by kernel_rfl
noncomputable def Zw.t363 : List SE := ncL []
theorem Zw.i363 : Zw.d171.sub 8 [] (idl 8 Zw.d171.objs) (idA 1) (Zw.d171.st 8 []) = true := by kernel_rfl
theorem Zw.r363 : leafFin (Tryz.Es Tryz.m4 (syOf Zw.t363)) Tryz.f6 (fK (Tryz.Es Tryz.m4 (syOf Zw.t363)) 100000 100000 Zw.p0 (Zw.d171.st 8 []) 12) = true := by kernel_rfl
noncomputable def Zw.t367 : List SE := ncL []
theorem Zw.i367 : Zw.d175.sub 8 [] (idl 8 Zw.d175.objs) (idA 1) (Zw.d175.st 8 []) = true := by kernel_rfl
theorem Zw.r367 : leafFin (Tryz.Es Tryz.m4 (syOf Zw.t367)) Tryz.f6 (fK (Tryz.Es Tryz.m4 (syOf Zw.t367)) 100000 100000 Zw.p0 (Zw.d175.st 8 []) 12) = true := by kernel_rfl
noncomputable def Zw.t371 : List SE := ncL []
theorem Zw.i371 : Zw.d179.sub 8 [] (idl 8 Zw.d179.objs) (idA 1) (Zw.d179.st 8 []) = true := by kernel_rfl
theorem Zw.r371 : leafFin (Tryz.Es Tryz.m4 (syOf Zw.t371)) Tryz.f6 (fK (Tryz.Es Tryz.m4 (syOf Zw.t371)) 100000 100000 Zw.p0 (Zw.d179.st 8 []) 12) = true := by kernel_rfl
noncomputable def Zw.t375 : List SE := ncL []
theorem Zw.i375 : Zw.d183.sub 8 [] (idl 8 Zw.d183.objs) (idA 1) (Zw.d183.st 8 []) = true := by kernel_rfl
theorem Zw.r375 : leafFin (Tryz.Es Tryz.m4 (syOf Zw.t375)) Tryz.f6 (fK (Tryz.Es Tryz.m4 (syOf Zw.t375)) 100000 100000 Zw.p0 (Zw.d183.st 8 []) 16) = true := by kernel_rfl
noncomputable def Zw.t379 : List SE := ncL []
theorem Zw.i379 : Zw.d187.sub 8 [] (idl 8 Zw.d187.objs) (idA 1) (Zw.d187.st 8 []) = true := by kernel_rfl
theorem Zw.r379 : leafFin (Tryz.Es Tryz.m4 (syOf Zw.t379)) Tryz.f6 (fK (Tryz.Es Tryz.m4 (syOf Zw.t379)) 100000 100000 Zw.p0 (Zw.d187.st 8 []) 16) = true := by kernel_rfl
noncomputable def Zw.t383 : List SE := ncL []
theorem Zw.i383 : Zw.d191.sub 8 [] (idl 8 Zw.d191.objs) (idA 1) (Zw.d191.st 8 []) = true := by kernel_rfl
theorem Zw.r383 : leafFin (Tryz.Es Tryz.m4 (syOf Zw.t383)) Tryz.f6 (fK (Tryz.Es Tryz.m4 (syOf Zw.t383)) 100000 100000 Zw.p0 (Zw.d191.st 8 []) 16) = true := by kernel_rfl
end
end Go.Proofs
