/- Pieces of the law's run, from node to node, answered by the executor. No conditions. -/
import Derived.Test.YtjmfbhlanjhnfaaGreatDoorVSeatPipeAlignNd
set_option linter.all false
namespace Go.Proofs
open Go Go.Vsx
set_option maxRecDepth 1000000
noncomputable section
noncomputable def Zw.t1 : List SE := ncL [⟨.bin .rem, (ch 1000), (.int .i64 3), (ch 1002)⟩,
  ⟨.bin .add, (ch 1002), (.int .i64 3), (ch 1003)⟩,
  ⟨.bin .rem, (ch 1003), (.int .i64 3), (.int .i64 1)⟩]
theorem Zw.i1 : Zw.d0.sub 8 [] (idl 8 Zw.d0.objs) (idA 2) (Zw.d0.st 8 []) = true := by kernel_rfl
theorem Zw.r1 : leafNext (fK (Tryz.Es Tryz.m4 (syOf Zw.t1)) 100000 100000 Zw.pS (Zw.d0.st 8 []) 0) 8 Zw.d2 [(10, 11), (11, 10)] [(ch 1001)] = some Zw.p0 := by kernel_rfl
noncomputable def Zw.t5 : List SE := ncL [⟨.len, (ch 1000), (.int .i64 0), (ch 1002)⟩,
  ⟨.bin .lss, (.int .i64 0), (ch 1002), (.bool true)⟩,
  ⟨.idx 1, (ch 1000), (.int .i64 0), (.pointer (some ⟨8, 0, none⟩))⟩,
  ⟨.bin .rem, (ch 1001), (.int .i64 5), (ch 1003)⟩,
  ⟨.bin .add, (ch 1003), (.int .i64 5), (ch 1004)⟩,
  ⟨.bin .rem, (ch 1004), (.int .i64 5), (.int .i64 2)⟩]
theorem Zw.i5 : Zw.d1.sub 8 [[(ch 1001)]] (idl 8 Zw.d1.objs) (idA 1) (Zw.d1.st 8 []) = true := by kernel_rfl
theorem Zw.r5 : leafNext (fK (Tryz.Es Tryz.m4 (syOf Zw.t5)) 100000 100000 Zw.p0 (Zw.d1.st 8 [[(ch 1001)]]) 4) 8 Zw.d6 [(10, 10), (11, 11), (12, 27)] [(ch 1000)] = some Zw.p0 := by kernel_rfl
noncomputable def Zw.t9 : List SE := ncL [⟨.len, (ch 1000), (.int .i64 0), (ch 1002)⟩,
  ⟨.bin .lss, (.int .i64 0), (ch 1002), (.bool true)⟩,
  ⟨.idx 1, (ch 1000), (.int .i64 0), (.pointer (some ⟨8, 0, none⟩))⟩,
  ⟨.bin .rem, (ch 1001), (.int .i64 5), (ch 1003)⟩,
  ⟨.bin .add, (ch 1003), (.int .i64 5), (ch 1004)⟩,
  ⟨.bin .rem, (ch 1004), (.int .i64 5), (.int .i64 0)⟩]
theorem Zw.i9 : Zw.d2.sub 8 [[(ch 1001)]] (idl 8 Zw.d2.objs) (idA 1) (Zw.d2.st 8 []) = true := by kernel_rfl
theorem Zw.r9 : leafNext (fK (Tryz.Es Tryz.m4 (syOf Zw.t9)) 100000 100000 Zw.p0 (Zw.d2.st 8 [[(ch 1001)]]) 2) 8 Zw.d9 [(10, 10), (11, 11), (12, 18)] [(ch 1000)] = some Zw.p0 := by kernel_rfl
noncomputable def Zw.t13 : List SE := ncL [⟨.len, (ch 1000), (.int .i64 0), (ch 1002)⟩,
  ⟨.bin .lss, (.int .i64 0), (ch 1002), (.bool true)⟩,
  ⟨.idx 1, (ch 1000), (.int .i64 0), (.pointer (some ⟨8, 0, none⟩))⟩,
  ⟨.bin .rem, (ch 1001), (.int .i64 5), (ch 1003)⟩,
  ⟨.bin .add, (ch 1003), (.int .i64 5), (ch 1004)⟩,
  ⟨.bin .rem, (ch 1004), (.int .i64 5), (.int .i64 4)⟩]
theorem Zw.i13 : Zw.d2.sub 8 [[(ch 1001)]] (idl 8 Zw.d2.objs) (idA 1) (Zw.d2.st 8 []) = true := by kernel_rfl
theorem Zw.r13 : leafNext (fK (Tryz.Es Tryz.m4 (syOf Zw.t13)) 100000 100000 Zw.p0 (Zw.d2.st 8 [[(ch 1001)]]) 6) 8 Zw.d13 [(10, 10), (11, 11), (12, 40)] [(ch 1000)] = some Zw.p0 := by kernel_rfl
noncomputable def Zw.t17 : List SE := ncL [⟨.len, (ch 1000), (.int .i64 0), (ch 1002)⟩,
  ⟨.bin .lss, (.int .i64 0), (ch 1002), (.bool true)⟩,
  ⟨.idx 1, (ch 1000), (.int .i64 0), (.pointer (some ⟨8, 0, none⟩))⟩,
  ⟨.bin .rem, (ch 1001), (.int .i64 5), (ch 1003)⟩,
  ⟨.bin .add, (ch 1003), (.int .i64 5), (ch 1004)⟩,
  ⟨.bin .rem, (ch 1004), (.int .i64 5), (.int .i64 2)⟩]
theorem Zw.i17 : Zw.d3.sub 8 [[(ch 1001)]] (idl 8 Zw.d3.objs) (idA 1) (Zw.d3.st 8 []) = true := by kernel_rfl
theorem Zw.r17 : leafNext (fK (Tryz.Es Tryz.m4 (syOf Zw.t17)) 100000 100000 Zw.p0 (Zw.d3.st 8 [[(ch 1001)]]) 4) 8 Zw.d16 [(10, 10), (11, 11), (12, 27)] [(ch 1000)] = some Zw.p0 := by kernel_rfl
noncomputable def Zw.t21 : List SE := ncL []
theorem Zw.i21 : Zw.d4.sub 8 [] (idl 8 Zw.d4.objs) (idA 1) (Zw.d4.st 8 []) = true := by kernel_rfl
theorem Zw.r21 : leafFin (Tryz.Es Tryz.m4 (syOf Zw.t21)) Tryz.f6 (fK (Tryz.Es Tryz.m4 (syOf Zw.t21)) 100000 100000 Zw.p0 (Zw.d4.st 8 []) 4) = true := by kernel_rfl
noncomputable def Zw.t25 : List SE := ncL []
theorem Zw.i25 : Zw.d8.sub 8 [] (idl 8 Zw.d8.objs) (idA 1) (Zw.d8.st 8 []) = true := by kernel_rfl
theorem Zw.r25 : leafFin (Tryz.Es Tryz.m4 (syOf Zw.t25)) Tryz.f6 (fK (Tryz.Es Tryz.m4 (syOf Zw.t25)) 100000 100000 Zw.p0 (Zw.d8.st 8 []) 8) = true := by kernel_rfl
noncomputable def Zw.t29 : List SE := ncL [⟨.len, (ch 1000), (.int .i64 0), (ch 1002)⟩,
  ⟨.bin .lss, (.int .i64 1), (ch 1002), (.bool true)⟩,
  ⟨.idx 1, (ch 1000), (.int .i64 1), (.pointer (some ⟨8, 0, none⟩))⟩,
  ⟨.bin .rem, (ch 1001), (.int .i64 5), (ch 1003)⟩,
  ⟨.bin .add, (ch 1003), (.int .i64 5), (ch 1004)⟩,
  ⟨.bin .rem, (ch 1004), (.int .i64 5), (.int .i64 3)⟩]
theorem Zw.i29 : Zw.d9.sub 8 [[(ch 1001)]] (idl 8 Zw.d9.objs) (idA 1) (Zw.d9.st 8 []) = true := by kernel_rfl
theorem Zw.r29 : leafNext (fK (Tryz.Es Tryz.m4 (syOf Zw.t29)) 100000 100000 Zw.p0 (Zw.d9.st 8 [[(ch 1001)]]) 5) 8 Zw.d22 [(10, 10), (11, 11), (12, 12), (13, 34)] [(ch 1000)] = some Zw.p0 := by kernel_rfl
noncomputable def Zw.t33 : List SE := ncL [⟨.len, (ch 1000), (.int .i64 0), (ch 1002)⟩,
  ⟨.bin .lss, (.int .i64 1), (ch 1002), (.bool true)⟩,
  ⟨.idx 1, (ch 1000), (.int .i64 1), (.pointer (some ⟨8, 0, none⟩))⟩,
  ⟨.bin .rem, (ch 1001), (.int .i64 5), (ch 1003)⟩,
  ⟨.bin .add, (ch 1003), (.int .i64 5), (ch 1004)⟩,
  ⟨.bin .rem, (ch 1004), (.int .i64 5), (.int .i64 1)⟩]
theorem Zw.i33 : Zw.d10.sub 8 [[(ch 1001)]] (idl 8 Zw.d10.objs) (idA 1) (Zw.d10.st 8 []) = true := by kernel_rfl
theorem Zw.r33 : leafNext (fK (Tryz.Es Tryz.m4 (syOf Zw.t33)) 100000 100000 Zw.p0 (Zw.d10.st 8 [[(ch 1001)]]) 3) 8 Zw.d25 [(10, 10), (11, 11), (12, 12), (13, 23)] [(ch 1000)] = some Zw.p0 := by kernel_rfl
noncomputable def Zw.t37 : List SE := ncL [⟨.len, (ch 1000), (.int .i64 0), (ch 1001)⟩,
  ⟨.bin .lss, (.int .i64 1), (ch 1001), (.bool false)⟩]
theorem Zw.i37 : Zw.d10.sub 8 [] (idl 8 Zw.d10.objs) (idA 1) (Zw.d10.st 8 []) = true := by kernel_rfl
theorem Zw.r37 : leafNext (fK (Tryz.Es Tryz.m4 (syOf Zw.t37)) 100000 100000 Zw.p0 (Zw.d10.st 8 []) 2) 8 Zw.d24 [(10, 10), (11, 11), (12, 12), (13, 19)] [(ch 1000)] = some Zw.p0 := by kernel_rfl
noncomputable def Zw.t41 : List SE := ncL [⟨.len, (ch 1000), (.int .i64 0), (ch 1002)⟩,
  ⟨.bin .lss, (.int .i64 1), (ch 1002), (.bool true)⟩,
  ⟨.idx 1, (ch 1000), (.int .i64 1), (.pointer (some ⟨8, 0, none⟩))⟩,
  ⟨.bin .rem, (ch 1001), (.int .i64 5), (ch 1003)⟩,
  ⟨.bin .add, (ch 1003), (.int .i64 5), (ch 1004)⟩,
  ⟨.bin .rem, (ch 1004), (.int .i64 5), (.int .i64 3)⟩]
theorem Zw.i41 : Zw.d11.sub 8 [[(ch 1001)]] (idl 8 Zw.d11.objs) (idA 1) (Zw.d11.st 8 []) = true := by kernel_rfl
theorem Zw.r41 : leafNext (fK (Tryz.Es Tryz.m4 (syOf Zw.t41)) 100000 100000 Zw.p0 (Zw.d11.st 8 [[(ch 1001)]]) 5) 8 Zw.d32 [(10, 10), (11, 11), (12, 12), (13, 34)] [(ch 1000)] = some Zw.p0 := by kernel_rfl
noncomputable def Zw.t45 : List SE := ncL [⟨.len, (ch 1000), (.int .i64 0), (ch 1002)⟩,
  ⟨.bin .lss, (.int .i64 1), (ch 1002), (.bool true)⟩,
  ⟨.idx 1, (ch 1000), (.int .i64 1), (.pointer (some ⟨8, 0, none⟩))⟩,
  ⟨.bin .rem, (ch 1001), (.int .i64 5), (ch 1003)⟩,
  ⟨.bin .add, (ch 1003), (.int .i64 5), (ch 1004)⟩,
  ⟨.bin .rem, (ch 1004), (.int .i64 5), (.int .i64 1)⟩]
theorem Zw.i45 : Zw.d12.sub 8 [[(ch 1001)]] (idl 8 Zw.d12.objs) (idA 1) (Zw.d12.st 8 []) = true := by kernel_rfl
theorem Zw.r45 : leafNext (fK (Tryz.Es Tryz.m4 (syOf Zw.t45)) 100000 100000 Zw.p0 (Zw.d12.st 8 [[(ch 1001)]]) 3) 8 Zw.d35 [(10, 10), (11, 11), (12, 12), (13, 23)] [(ch 1000)] = some Zw.p0 := by kernel_rfl
noncomputable def Zw.t49 : List SE := ncL [⟨.len, (ch 1000), (.int .i64 0), (ch 1001)⟩,
  ⟨.bin .lss, (.int .i64 1), (ch 1001), (.bool false)⟩]
theorem Zw.i49 : Zw.d12.sub 8 [] (idl 8 Zw.d12.objs) (idA 1) (Zw.d12.st 8 []) = true := by kernel_rfl
theorem Zw.r49 : leafNext (fK (Tryz.Es Tryz.m4 (syOf Zw.t49)) 100000 100000 Zw.p0 (Zw.d12.st 8 []) 2) 8 Zw.d34 [(10, 10), (11, 11), (12, 12), (13, 19)] [(ch 1000)] = some Zw.p0 := by kernel_rfl
noncomputable def Zw.t53 : List SE := ncL [⟨.len, (ch 1000), (.int .i64 0), (ch 1002)⟩,
  ⟨.bin .lss, (.int .i64 1), (ch 1002), (.bool true)⟩,
  ⟨.idx 1, (ch 1000), (.int .i64 1), (.pointer (some ⟨8, 0, none⟩))⟩,
  ⟨.bin .rem, (ch 1001), (.int .i64 5), (ch 1003)⟩,
  ⟨.bin .add, (ch 1003), (.int .i64 5), (ch 1004)⟩,
  ⟨.bin .rem, (ch 1004), (.int .i64 5), (.int .i64 3)⟩]
theorem Zw.i53 : Zw.d13.sub 8 [[(ch 1001)]] (idl 8 Zw.d13.objs) (idA 1) (Zw.d13.st 8 []) = true := by kernel_rfl
theorem Zw.r53 : leafNext (fK (Tryz.Es Tryz.m4 (syOf Zw.t53)) 100000 100000 Zw.p0 (Zw.d13.st 8 [[(ch 1001)]]) 5) 8 Zw.d42 [(10, 10), (11, 11), (12, 12), (13, 34)] [(ch 1000)] = some Zw.p0 := by kernel_rfl
noncomputable def Zw.t57 : List SE := ncL [⟨.len, (ch 1000), (.int .i64 0), (ch 1002)⟩,
  ⟨.bin .lss, (.int .i64 1), (ch 1002), (.bool true)⟩,
  ⟨.idx 1, (ch 1000), (.int .i64 1), (.pointer (some ⟨8, 0, none⟩))⟩,
  ⟨.bin .rem, (ch 1001), (.int .i64 5), (ch 1003)⟩,
  ⟨.bin .add, (ch 1003), (.int .i64 5), (ch 1004)⟩,
  ⟨.bin .rem, (ch 1004), (.int .i64 5), (.int .i64 1)⟩]
theorem Zw.i57 : Zw.d14.sub 8 [[(ch 1001)]] (idl 8 Zw.d14.objs) (idA 1) (Zw.d14.st 8 []) = true := by kernel_rfl
theorem Zw.r57 : leafNext (fK (Tryz.Es Tryz.m4 (syOf Zw.t57)) 100000 100000 Zw.p0 (Zw.d14.st 8 [[(ch 1001)]]) 3) 8 Zw.d45 [(10, 10), (11, 11), (12, 12), (13, 23)] [(ch 1000)] = some Zw.p0 := by kernel_rfl
noncomputable def Zw.t61 : List SE := ncL [⟨.len, (ch 1000), (.int .i64 0), (ch 1001)⟩,
  ⟨.bin .lss, (.int .i64 1), (ch 1001), (.bool false)⟩]
theorem Zw.i61 : Zw.d14.sub 8 [] (idl 8 Zw.d14.objs) (idA 1) (Zw.d14.st 8 []) = true := by kernel_rfl
theorem Zw.r61 : leafNext (fK (Tryz.Es Tryz.m4 (syOf Zw.t61)) 100000 100000 Zw.p0 (Zw.d14.st 8 []) 2) 8 Zw.d44 [(10, 10), (11, 11), (12, 12), (13, 19)] [(ch 1000)] = some Zw.p0 := by kernel_rfl
noncomputable def Zw.t65 : List SE := ncL [⟨.len, (ch 1000), (.int .i64 0), (ch 1002)⟩,
  ⟨.bin .lss, (.int .i64 1), (ch 1002), (.bool true)⟩,
  ⟨.idx 1, (ch 1000), (.int .i64 1), (.pointer (some ⟨8, 0, none⟩))⟩,
  ⟨.bin .rem, (ch 1001), (.int .i64 5), (ch 1003)⟩,
  ⟨.bin .add, (ch 1003), (.int .i64 5), (ch 1004)⟩,
  ⟨.bin .rem, (ch 1004), (.int .i64 5), (.int .i64 3)⟩]
theorem Zw.i65 : Zw.d15.sub 8 [[(ch 1001)]] (idl 8 Zw.d15.objs) (idA 1) (Zw.d15.st 8 []) = true := by kernel_rfl
theorem Zw.r65 : leafNext (fK (Tryz.Es Tryz.m4 (syOf Zw.t65)) 100000 100000 Zw.p0 (Zw.d15.st 8 [[(ch 1001)]]) 5) 8 Zw.d52 [(10, 10), (11, 11), (12, 12), (13, 34)] [(ch 1000)] = some Zw.p0 := by kernel_rfl
noncomputable def Zw.t69 : List SE := ncL [⟨.len, (ch 1000), (.int .i64 0), (ch 1002)⟩,
  ⟨.bin .lss, (.int .i64 1), (ch 1002), (.bool true)⟩,
  ⟨.idx 1, (ch 1000), (.int .i64 1), (.pointer (some ⟨8, 0, none⟩))⟩,
  ⟨.bin .rem, (ch 1001), (.int .i64 5), (ch 1003)⟩,
  ⟨.bin .add, (ch 1003), (.int .i64 5), (ch 1004)⟩,
  ⟨.bin .rem, (ch 1004), (.int .i64 5), (.int .i64 1)⟩]
theorem Zw.i69 : Zw.d16.sub 8 [[(ch 1001)]] (idl 8 Zw.d16.objs) (idA 1) (Zw.d16.st 8 []) = true := by kernel_rfl
theorem Zw.r69 : leafNext (fK (Tryz.Es Tryz.m4 (syOf Zw.t69)) 100000 100000 Zw.p0 (Zw.d16.st 8 [[(ch 1001)]]) 3) 8 Zw.d55 [(10, 10), (11, 11), (12, 12), (13, 23)] [(ch 1000)] = some Zw.p0 := by kernel_rfl
noncomputable def Zw.t73 : List SE := ncL [⟨.len, (ch 1000), (.int .i64 0), (ch 1001)⟩,
  ⟨.bin .lss, (.int .i64 1), (ch 1001), (.bool false)⟩]
theorem Zw.i73 : Zw.d16.sub 8 [] (idl 8 Zw.d16.objs) (idA 1) (Zw.d16.st 8 []) = true := by kernel_rfl
theorem Zw.r73 : leafNext (fK (Tryz.Es Tryz.m4 (syOf Zw.t73)) 100000 100000 Zw.p0 (Zw.d16.st 8 []) 2) 8 Zw.d54 [(10, 10), (11, 11), (12, 12), (13, 19)] [(ch 1000)] = some Zw.p0 := by kernel_rfl
noncomputable def Zw.t77 : List SE := ncL [⟨.len, (ch 1000), (.int .i64 0), (ch 1002)⟩,
  ⟨.bin .lss, (.int .i64 1), (ch 1002), (.bool true)⟩,
  ⟨.idx 1, (ch 1000), (.int .i64 1), (.pointer (some ⟨8, 0, none⟩))⟩,
  ⟨.bin .rem, (ch 1001), (.int .i64 5), (ch 1003)⟩,
  ⟨.bin .add, (ch 1003), (.int .i64 5), (ch 1004)⟩,
  ⟨.bin .rem, (ch 1004), (.int .i64 5), (.int .i64 3)⟩]
theorem Zw.i77 : Zw.d17.sub 8 [[(ch 1001)]] (idl 8 Zw.d17.objs) (idA 1) (Zw.d17.st 8 []) = true := by kernel_rfl
theorem Zw.r77 : leafNext (fK (Tryz.Es Tryz.m4 (syOf Zw.t77)) 100000 100000 Zw.p0 (Zw.d17.st 8 [[(ch 1001)]]) 5) 8 Zw.d62 [(10, 10), (11, 11), (12, 12), (13, 34)] [(ch 1000)] = some Zw.p0 := by kernel_rfl
noncomputable def Zw.t81 : List SE := ncL [⟨.len, (ch 1000), (.int .i64 0), (ch 1002)⟩,
  ⟨.bin .lss, (.int .i64 1), (ch 1002), (.bool true)⟩,
  ⟨.idx 1, (ch 1000), (.int .i64 1), (.pointer (some ⟨8, 0, none⟩))⟩,
  ⟨.bin .rem, (ch 1001), (.int .i64 5), (ch 1003)⟩,
  ⟨.bin .add, (ch 1003), (.int .i64 5), (ch 1004)⟩,
  ⟨.bin .rem, (ch 1004), (.int .i64 5), (.int .i64 1)⟩]
theorem Zw.i81 : Zw.d18.sub 8 [[(ch 1001)]] (idl 8 Zw.d18.objs) (idA 1) (Zw.d18.st 8 []) = true := by kernel_rfl
theorem Zw.r81 : leafNext (fK (Tryz.Es Tryz.m4 (syOf Zw.t81)) 100000 100000 Zw.p0 (Zw.d18.st 8 [[(ch 1001)]]) 3) 8 Zw.d65 [(10, 10), (11, 11), (12, 12), (13, 23)] [(ch 1000)] = some Zw.p0 := by kernel_rfl
noncomputable def Zw.t85 : List SE := ncL [⟨.len, (ch 1000), (.int .i64 0), (ch 1001)⟩,
  ⟨.bin .lss, (.int .i64 1), (ch 1001), (.bool false)⟩]
theorem Zw.i85 : Zw.d18.sub 8 [] (idl 8 Zw.d18.objs) (idA 1) (Zw.d18.st 8 []) = true := by kernel_rfl
theorem Zw.r85 : leafNext (fK (Tryz.Es Tryz.m4 (syOf Zw.t85)) 100000 100000 Zw.p0 (Zw.d18.st 8 []) 2) 8 Zw.d64 [(10, 10), (11, 11), (12, 12), (13, 19)] [(ch 1000)] = some Zw.p0 := by kernel_rfl
noncomputable def Zw.t89 : List SE := ncL []
theorem Zw.i89 : Zw.d22.sub 8 [] (idl 8 Zw.d22.objs) (idA 1) (Zw.d22.st 8 []) = true := by kernel_rfl
theorem Zw.r89 : leafFin (Tryz.Es Tryz.m4 (syOf Zw.t89)) Tryz.f6 (fK (Tryz.Es Tryz.m4 (syOf Zw.t89)) 100000 100000 Zw.p0 (Zw.d22.st 8 []) 8) = true := by kernel_rfl
noncomputable def Zw.t93 : List SE := ncL []
theorem Zw.i93 : Zw.d26.sub 8 [] (idl 8 Zw.d26.objs) (idA 1) (Zw.d26.st 8 []) = true := by kernel_rfl
theorem Zw.r93 : leafFin (Tryz.Es Tryz.m4 (syOf Zw.t93)) Tryz.f6 (fK (Tryz.Es Tryz.m4 (syOf Zw.t93)) 100000 100000 Zw.p0 (Zw.d26.st 8 []) 8) = true := by kernel_rfl
noncomputable def Zw.t97 : List SE := ncL []
theorem Zw.i97 : Zw.d30.sub 8 [] (idl 8 Zw.d30.objs) (idA 1) (Zw.d30.st 8 []) = true := by kernel_rfl
theorem Zw.r97 : leafFin (Tryz.Es Tryz.m4 (syOf Zw.t97)) Tryz.f6 (fK (Tryz.Es Tryz.m4 (syOf Zw.t97)) 100000 100000 Zw.p0 (Zw.d30.st 8 []) 8) = true := by kernel_rfl
noncomputable def Zw.t101 : List SE := ncL []
theorem Zw.i101 : Zw.d34.sub 8 [] (idl 8 Zw.d34.objs) (idA 1) (Zw.d34.st 8 []) = true := by kernel_rfl
theorem Zw.r101 : leafFin (Tryz.Es Tryz.m4 (syOf Zw.t101)) Tryz.f6 (fK (Tryz.Es Tryz.m4 (syOf Zw.t101)) 100000 100000 Zw.p0 (Zw.d34.st 8 []) 8) = true := by kernel_rfl
noncomputable def Zw.t105 : List SE := ncL []
theorem Zw.i105 : Zw.d38.sub 8 [] (idl 8 Zw.d38.objs) (idA 1) (Zw.d38.st 8 []) = true := by kernel_rfl
theorem Zw.r105 : leafFin (Tryz.Es Tryz.m4 (syOf Zw.t105)) Tryz.f6 (fK (Tryz.Es Tryz.m4 (syOf Zw.t105)) 100000 100000 Zw.p0 (Zw.d38.st 8 []) 12) = true := by kernel_rfl
noncomputable def Zw.t109 : List SE := ncL []
theorem Zw.i109 : Zw.d42.sub 8 [] (idl 8 Zw.d42.objs) (idA 1) (Zw.d42.st 8 []) = true := by kernel_rfl
theorem Zw.r109 : leafFin (Tryz.Es Tryz.m4 (syOf Zw.t109)) Tryz.f6 (fK (Tryz.Es Tryz.m4 (syOf Zw.t109)) 100000 100000 Zw.p0 (Zw.d42.st 8 []) 12) = true := by kernel_rfl
noncomputable def Zw.t113 : List SE := ncL [⟨.len, (ch 1000), (.int .i64 0), (ch 1002)⟩,
  ⟨.bin .lss, (.int .i64 2), (ch 1002), (.bool true)⟩,
  ⟨.idx 1, (ch 1000), (.int .i64 2), (.pointer (some ⟨8, 0, none⟩))⟩,
  ⟨.bin .rem, (ch 1001), (.int .i64 5), (ch 1003)⟩,
  ⟨.bin .add, (ch 1003), (.int .i64 5), (ch 1004)⟩,
  ⟨.bin .rem, (ch 1004), (.int .i64 5), (.int .i64 2)⟩]
theorem Zw.i113 : Zw.d44.sub 8 [[(ch 1001)]] (idl 8 Zw.d44.objs) (idA 1) (Zw.d44.st 8 []) = true := by kernel_rfl
theorem Zw.r113 : leafNext (fK (Tryz.Es Tryz.m4 (syOf Zw.t113)) 100000 100000 Zw.p0 (Zw.d44.st 8 [[(ch 1001)]]) 4) 8 Zw.d71 [(10, 10), (11, 11), (12, 12), (13, 13), (14, 29)] [(ch 1000)] = some Zw.p0 := by kernel_rfl
noncomputable def Zw.t117 : List SE := ncL [⟨.len, (ch 1000), (.int .i64 0), (ch 1002)⟩,
  ⟨.bin .lss, (.int .i64 2), (ch 1002), (.bool true)⟩,
  ⟨.idx 1, (ch 1000), (.int .i64 2), (.pointer (some ⟨8, 0, none⟩))⟩,
  ⟨.bin .rem, (ch 1001), (.int .i64 5), (ch 1003)⟩,
  ⟨.bin .add, (ch 1003), (.int .i64 5), (ch 1004)⟩,
  ⟨.bin .rem, (ch 1004), (.int .i64 5), (.int .i64 0)⟩]
theorem Zw.i117 : Zw.d45.sub 8 [[(ch 1001)]] (idl 8 Zw.d45.objs) (idA 1) (Zw.d45.st 8 []) = true := by kernel_rfl
theorem Zw.r117 : leafNext (fK (Tryz.Es Tryz.m4 (syOf Zw.t117)) 100000 100000 Zw.p0 (Zw.d45.st 8 [[(ch 1001)]]) 2) 8 Zw.d74 [(10, 10), (11, 11), (12, 12), (13, 13), (14, 20)] [(ch 1000)] = some Zw.p0 := by kernel_rfl
noncomputable def Zw.t121 : List SE := ncL [⟨.len, (ch 1000), (.int .i64 0), (ch 1002)⟩,
  ⟨.bin .lss, (.int .i64 2), (ch 1002), (.bool true)⟩,
  ⟨.idx 1, (ch 1000), (.int .i64 2), (.pointer (some ⟨8, 0, none⟩))⟩,
  ⟨.bin .rem, (ch 1001), (.int .i64 5), (ch 1003)⟩,
  ⟨.bin .add, (ch 1003), (.int .i64 5), (ch 1004)⟩,
  ⟨.bin .rem, (ch 1004), (.int .i64 5), (.int .i64 4)⟩]
theorem Zw.i121 : Zw.d45.sub 8 [[(ch 1001)]] (idl 8 Zw.d45.objs) (idA 1) (Zw.d45.st 8 []) = true := by kernel_rfl
theorem Zw.r121 : leafNext (fK (Tryz.Es Tryz.m4 (syOf Zw.t121)) 100000 100000 Zw.p0 (Zw.d45.st 8 [[(ch 1001)]]) 6) 8 Zw.d78 [(10, 10), (11, 11), (12, 12), (13, 13), (14, 42)] [(ch 1000)] = some Zw.p0 := by kernel_rfl
noncomputable def Zw.t125 : List SE := ncL [⟨.len, (ch 1000), (.int .i64 0), (ch 1002)⟩,
  ⟨.bin .lss, (.int .i64 2), (ch 1002), (.bool true)⟩,
  ⟨.idx 1, (ch 1000), (.int .i64 2), (.pointer (some ⟨8, 0, none⟩))⟩,
  ⟨.bin .rem, (ch 1001), (.int .i64 5), (ch 1003)⟩,
  ⟨.bin .add, (ch 1003), (.int .i64 5), (ch 1004)⟩,
  ⟨.bin .rem, (ch 1004), (.int .i64 5), (.int .i64 2)⟩]
theorem Zw.i125 : Zw.d46.sub 8 [[(ch 1001)]] (idl 8 Zw.d46.objs) (idA 1) (Zw.d46.st 8 []) = true := by kernel_rfl
theorem Zw.r125 : leafNext (fK (Tryz.Es Tryz.m4 (syOf Zw.t125)) 100000 100000 Zw.p0 (Zw.d46.st 8 [[(ch 1001)]]) 4) 8 Zw.d81 [(10, 10), (11, 11), (12, 12), (13, 13), (14, 29)] [(ch 1000)] = some Zw.p0 := by kernel_rfl
noncomputable def Zw.t129 : List SE := ncL [⟨.len, (ch 1000), (.int .i64 0), (ch 1002)⟩,
  ⟨.bin .lss, (.int .i64 2), (ch 1002), (.bool true)⟩,
  ⟨.idx 1, (ch 1000), (.int .i64 2), (.pointer (some ⟨8, 0, none⟩))⟩,
  ⟨.bin .rem, (ch 1001), (.int .i64 5), (ch 1003)⟩,
  ⟨.bin .add, (ch 1003), (.int .i64 5), (ch 1004)⟩,
  ⟨.bin .rem, (ch 1004), (.int .i64 5), (.int .i64 0)⟩]
theorem Zw.i129 : Zw.d47.sub 8 [[(ch 1001)]] (idl 8 Zw.d47.objs) (idA 1) (Zw.d47.st 8 []) = true := by kernel_rfl
theorem Zw.r129 : leafNext (fK (Tryz.Es Tryz.m4 (syOf Zw.t129)) 100000 100000 Zw.p0 (Zw.d47.st 8 [[(ch 1001)]]) 2) 8 Zw.d84 [(10, 10), (11, 11), (12, 12), (13, 13), (14, 20)] [(ch 1000)] = some Zw.p0 := by kernel_rfl
noncomputable def Zw.t133 : List SE := ncL [⟨.len, (ch 1000), (.int .i64 0), (ch 1002)⟩,
  ⟨.bin .lss, (.int .i64 2), (ch 1002), (.bool true)⟩,
  ⟨.idx 1, (ch 1000), (.int .i64 2), (.pointer (some ⟨8, 0, none⟩))⟩,
  ⟨.bin .rem, (ch 1001), (.int .i64 5), (ch 1003)⟩,
  ⟨.bin .add, (ch 1003), (.int .i64 5), (ch 1004)⟩,
  ⟨.bin .rem, (ch 1004), (.int .i64 5), (.int .i64 4)⟩]
theorem Zw.i133 : Zw.d47.sub 8 [[(ch 1001)]] (idl 8 Zw.d47.objs) (idA 1) (Zw.d47.st 8 []) = true := by kernel_rfl
theorem Zw.r133 : leafNext (fK (Tryz.Es Tryz.m4 (syOf Zw.t133)) 100000 100000 Zw.p0 (Zw.d47.st 8 [[(ch 1001)]]) 6) 8 Zw.d88 [(10, 10), (11, 11), (12, 12), (13, 13), (14, 42)] [(ch 1000)] = some Zw.p0 := by kernel_rfl
noncomputable def Zw.t137 : List SE := ncL [⟨.len, (ch 1000), (.int .i64 0), (ch 1002)⟩,
  ⟨.bin .lss, (.int .i64 2), (ch 1002), (.bool true)⟩,
  ⟨.idx 1, (ch 1000), (.int .i64 2), (.pointer (some ⟨8, 0, none⟩))⟩,
  ⟨.bin .rem, (ch 1001), (.int .i64 5), (ch 1003)⟩,
  ⟨.bin .add, (ch 1003), (.int .i64 5), (ch 1004)⟩,
  ⟨.bin .rem, (ch 1004), (.int .i64 5), (.int .i64 2)⟩]
theorem Zw.i137 : Zw.d48.sub 8 [[(ch 1001)]] (idl 8 Zw.d48.objs) (idA 1) (Zw.d48.st 8 []) = true := by kernel_rfl
theorem Zw.r137 : leafNext (fK (Tryz.Es Tryz.m4 (syOf Zw.t137)) 100000 100000 Zw.p0 (Zw.d48.st 8 [[(ch 1001)]]) 4) 8 Zw.d91 [(10, 10), (11, 11), (12, 12), (13, 13), (14, 29)] [(ch 1000)] = some Zw.p0 := by kernel_rfl
noncomputable def Zw.t141 : List SE := ncL [⟨.len, (ch 1000), (.int .i64 0), (ch 1002)⟩,
  ⟨.bin .lss, (.int .i64 2), (ch 1002), (.bool true)⟩,
  ⟨.idx 1, (ch 1000), (.int .i64 2), (.pointer (some ⟨8, 0, none⟩))⟩,
  ⟨.bin .rem, (ch 1001), (.int .i64 5), (ch 1003)⟩,
  ⟨.bin .add, (ch 1003), (.int .i64 5), (ch 1004)⟩,
  ⟨.bin .rem, (ch 1004), (.int .i64 5), (.int .i64 0)⟩]
theorem Zw.i141 : Zw.d49.sub 8 [[(ch 1001)]] (idl 8 Zw.d49.objs) (idA 1) (Zw.d49.st 8 []) = true := by kernel_rfl
theorem Zw.r141 : leafNext (fK (Tryz.Es Tryz.m4 (syOf Zw.t141)) 100000 100000 Zw.p0 (Zw.d49.st 8 [[(ch 1001)]]) 2) 8 Zw.d94 [(10, 10), (11, 11), (12, 12), (13, 13), (14, 20)] [(ch 1000)] = some Zw.p0 := by kernel_rfl
noncomputable def Zw.t145 : List SE := ncL [⟨.len, (ch 1000), (.int .i64 0), (ch 1002)⟩,
  ⟨.bin .lss, (.int .i64 2), (ch 1002), (.bool true)⟩,
  ⟨.idx 1, (ch 1000), (.int .i64 2), (.pointer (some ⟨8, 0, none⟩))⟩,
  ⟨.bin .rem, (ch 1001), (.int .i64 5), (ch 1003)⟩,
  ⟨.bin .add, (ch 1003), (.int .i64 5), (ch 1004)⟩,
  ⟨.bin .rem, (ch 1004), (.int .i64 5), (.int .i64 4)⟩]
theorem Zw.i145 : Zw.d49.sub 8 [[(ch 1001)]] (idl 8 Zw.d49.objs) (idA 1) (Zw.d49.st 8 []) = true := by kernel_rfl
theorem Zw.r145 : leafNext (fK (Tryz.Es Tryz.m4 (syOf Zw.t145)) 100000 100000 Zw.p0 (Zw.d49.st 8 [[(ch 1001)]]) 6) 8 Zw.d98 [(10, 10), (11, 11), (12, 12), (13, 13), (14, 42)] [(ch 1000)] = some Zw.p0 := by kernel_rfl
noncomputable def Zw.t149 : List SE := ncL [⟨.len, (ch 1000), (.int .i64 0), (ch 1002)⟩,
  ⟨.bin .lss, (.int .i64 2), (ch 1002), (.bool true)⟩,
  ⟨.idx 1, (ch 1000), (.int .i64 2), (.pointer (some ⟨8, 0, none⟩))⟩,
  ⟨.bin .rem, (ch 1001), (.int .i64 5), (ch 1003)⟩,
  ⟨.bin .add, (ch 1003), (.int .i64 5), (ch 1004)⟩,
  ⟨.bin .rem, (ch 1004), (.int .i64 5), (.int .i64 2)⟩]
theorem Zw.i149 : Zw.d50.sub 8 [[(ch 1001)]] (idl 8 Zw.d50.objs) (idA 1) (Zw.d50.st 8 []) = true := by kernel_rfl
theorem Zw.r149 : leafNext (fK (Tryz.Es Tryz.m4 (syOf Zw.t149)) 100000 100000 Zw.p0 (Zw.d50.st 8 [[(ch 1001)]]) 4) 8 Zw.d101 [(10, 10), (11, 11), (12, 12), (13, 13), (14, 29)] [(ch 1000)] = some Zw.p0 := by kernel_rfl
noncomputable def Zw.t153 : List SE := ncL [⟨.len, (ch 1000), (.int .i64 0), (ch 1002)⟩,
  ⟨.bin .lss, (.int .i64 2), (ch 1002), (.bool true)⟩,
  ⟨.idx 1, (ch 1000), (.int .i64 2), (.pointer (some ⟨8, 0, none⟩))⟩,
  ⟨.bin .rem, (ch 1001), (.int .i64 5), (ch 1003)⟩,
  ⟨.bin .add, (ch 1003), (.int .i64 5), (ch 1004)⟩,
  ⟨.bin .rem, (ch 1004), (.int .i64 5), (.int .i64 0)⟩]
theorem Zw.i153 : Zw.d51.sub 8 [[(ch 1001)]] (idl 8 Zw.d51.objs) (idA 1) (Zw.d51.st 8 []) = true := by kernel_rfl
theorem Zw.r153 : leafNext (fK (Tryz.Es Tryz.m4 (syOf Zw.t153)) 100000 100000 Zw.p0 (Zw.d51.st 8 [[(ch 1001)]]) 2) 8 Zw.d104 [(10, 10), (11, 11), (12, 12), (13, 13), (14, 20)] [(ch 1000)] = some Zw.p0 := by kernel_rfl
noncomputable def Zw.t157 : List SE := ncL [⟨.len, (ch 1000), (.int .i64 0), (ch 1002)⟩,
  ⟨.bin .lss, (.int .i64 2), (ch 1002), (.bool true)⟩,
  ⟨.idx 1, (ch 1000), (.int .i64 2), (.pointer (some ⟨8, 0, none⟩))⟩,
  ⟨.bin .rem, (ch 1001), (.int .i64 5), (ch 1003)⟩,
  ⟨.bin .add, (ch 1003), (.int .i64 5), (ch 1004)⟩,
  ⟨.bin .rem, (ch 1004), (.int .i64 5), (.int .i64 4)⟩]
theorem Zw.i157 : Zw.d51.sub 8 [[(ch 1001)]] (idl 8 Zw.d51.objs) (idA 1) (Zw.d51.st 8 []) = true := by kernel_rfl
theorem Zw.r157 : leafNext (fK (Tryz.Es Tryz.m4 (syOf Zw.t157)) 100000 100000 Zw.p0 (Zw.d51.st 8 [[(ch 1001)]]) 6) 8 Zw.d108 [(10, 10), (11, 11), (12, 12), (13, 13), (14, 42)] [(ch 1000)] = some Zw.p0 := by kernel_rfl
noncomputable def Zw.t161 : List SE := ncL [⟨.len, (ch 1000), (.int .i64 0), (ch 1002)⟩,
  ⟨.bin .lss, (.int .i64 2), (ch 1002), (.bool true)⟩,
  ⟨.idx 1, (ch 1000), (.int .i64 2), (.pointer (some ⟨8, 0, none⟩))⟩,
  ⟨.bin .rem, (ch 1001), (.int .i64 5), (ch 1003)⟩,
  ⟨.bin .add, (ch 1003), (.int .i64 5), (ch 1004)⟩,
  ⟨.bin .rem, (ch 1004), (.int .i64 5), (.int .i64 2)⟩]
theorem Zw.i161 : Zw.d52.sub 8 [[(ch 1001)]] (idl 8 Zw.d52.objs) (idA 1) (Zw.d52.st 8 []) = true := by kernel_rfl
theorem Zw.r161 : leafNext (fK (Tryz.Es Tryz.m4 (syOf Zw.t161)) 100000 100000 Zw.p0 (Zw.d52.st 8 [[(ch 1001)]]) 4) 8 Zw.d111 [(10, 10), (11, 11), (12, 12), (13, 13), (14, 29)] [(ch 1000)] = some Zw.p0 := by kernel_rfl
noncomputable def Zw.t165 : List SE := ncL [⟨.len, (ch 1000), (.int .i64 0), (ch 1002)⟩,
  ⟨.bin .lss, (.int .i64 2), (ch 1002), (.bool true)⟩,
  ⟨.idx 1, (ch 1000), (.int .i64 2), (.pointer (some ⟨8, 0, none⟩))⟩,
  ⟨.bin .rem, (ch 1001), (.int .i64 5), (ch 1003)⟩,
  ⟨.bin .add, (ch 1003), (.int .i64 5), (ch 1004)⟩,
  ⟨.bin .rem, (ch 1004), (.int .i64 5), (.int .i64 0)⟩]
theorem Zw.i165 : Zw.d53.sub 8 [[(ch 1001)]] (idl 8 Zw.d53.objs) (idA 1) (Zw.d53.st 8 []) = true := by kernel_rfl
theorem Zw.r165 : leafNext (fK (Tryz.Es Tryz.m4 (syOf Zw.t165)) 100000 100000 Zw.p0 (Zw.d53.st 8 [[(ch 1001)]]) 2) 8 Zw.d114 [(10, 10), (11, 11), (12, 12), (13, 13), (14, 20)] [(ch 1000)] = some Zw.p0 := by kernel_rfl
noncomputable def Zw.t169 : List SE := ncL [⟨.len, (ch 1000), (.int .i64 0), (ch 1002)⟩,
  ⟨.bin .lss, (.int .i64 2), (ch 1002), (.bool true)⟩,
  ⟨.idx 1, (ch 1000), (.int .i64 2), (.pointer (some ⟨8, 0, none⟩))⟩,
  ⟨.bin .rem, (ch 1001), (.int .i64 5), (ch 1003)⟩,
  ⟨.bin .add, (ch 1003), (.int .i64 5), (ch 1004)⟩,
  ⟨.bin .rem, (ch 1004), (.int .i64 5), (.int .i64 4)⟩]
theorem Zw.i169 : Zw.d53.sub 8 [[(ch 1001)]] (idl 8 Zw.d53.objs) (idA 1) (Zw.d53.st 8 []) = true := by kernel_rfl
theorem Zw.r169 : leafNext (fK (Tryz.Es Tryz.m4 (syOf Zw.t169)) 100000 100000 Zw.p0 (Zw.d53.st 8 [[(ch 1001)]]) 6) 8 Zw.d118 [(10, 10), (11, 11), (12, 12), (13, 13), (14, 42)] [(ch 1000)] = some Zw.p0 := by kernel_rfl
noncomputable def Zw.t173 : List SE := ncL [⟨.len, (ch 1000), (.int .i64 0), (ch 1002)⟩,
  ⟨.bin .lss, (.int .i64 2), (ch 1002), (.bool true)⟩,
  ⟨.idx 1, (ch 1000), (.int .i64 2), (.pointer (some ⟨8, 0, none⟩))⟩,
  ⟨.bin .rem, (ch 1001), (.int .i64 5), (ch 1003)⟩,
  ⟨.bin .add, (ch 1003), (.int .i64 5), (ch 1004)⟩,
  ⟨.bin .rem, (ch 1004), (.int .i64 5), (.int .i64 2)⟩]
theorem Zw.i173 : Zw.d54.sub 8 [[(ch 1001)]] (idl 8 Zw.d54.objs) (idA 1) (Zw.d54.st 8 []) = true := by kernel_rfl
theorem Zw.r173 : leafNext (fK (Tryz.Es Tryz.m4 (syOf Zw.t173)) 100000 100000 Zw.p0 (Zw.d54.st 8 [[(ch 1001)]]) 4) 8 Zw.d121 [(10, 10), (11, 11), (12, 12), (13, 13), (14, 29)] [(ch 1000)] = some Zw.p0 := by kernel_rfl
noncomputable def Zw.t177 : List SE := ncL [⟨.len, (ch 1000), (.int .i64 0), (ch 1002)⟩,
  ⟨.bin .lss, (.int .i64 2), (ch 1002), (.bool true)⟩,
  ⟨.idx 1, (ch 1000), (.int .i64 2), (.pointer (some ⟨8, 0, none⟩))⟩,
  ⟨.bin .rem, (ch 1001), (.int .i64 5), (ch 1003)⟩,
  ⟨.bin .add, (ch 1003), (.int .i64 5), (ch 1004)⟩,
  ⟨.bin .rem, (ch 1004), (.int .i64 5), (.int .i64 0)⟩]
theorem Zw.i177 : Zw.d55.sub 8 [[(ch 1001)]] (idl 8 Zw.d55.objs) (idA 1) (Zw.d55.st 8 []) = true := by kernel_rfl
theorem Zw.r177 : leafNext (fK (Tryz.Es Tryz.m4 (syOf Zw.t177)) 100000 100000 Zw.p0 (Zw.d55.st 8 [[(ch 1001)]]) 2) 8 Zw.d124 [(10, 10), (11, 11), (12, 12), (13, 13), (14, 20)] [(ch 1000)] = some Zw.p0 := by kernel_rfl
noncomputable def Zw.t181 : List SE := ncL [⟨.len, (ch 1000), (.int .i64 0), (ch 1002)⟩,
  ⟨.bin .lss, (.int .i64 2), (ch 1002), (.bool true)⟩,
  ⟨.idx 1, (ch 1000), (.int .i64 2), (.pointer (some ⟨8, 0, none⟩))⟩,
  ⟨.bin .rem, (ch 1001), (.int .i64 5), (ch 1003)⟩,
  ⟨.bin .add, (ch 1003), (.int .i64 5), (ch 1004)⟩,
  ⟨.bin .rem, (ch 1004), (.int .i64 5), (.int .i64 4)⟩]
theorem Zw.i181 : Zw.d55.sub 8 [[(ch 1001)]] (idl 8 Zw.d55.objs) (idA 1) (Zw.d55.st 8 []) = true := by kernel_rfl
theorem Zw.r181 : leafNext (fK (Tryz.Es Tryz.m4 (syOf Zw.t181)) 100000 100000 Zw.p0 (Zw.d55.st 8 [[(ch 1001)]]) 6) 8 Zw.d128 [(10, 10), (11, 11), (12, 12), (13, 13), (14, 42)] [(ch 1000)] = some Zw.p0 := by kernel_rfl
noncomputable def Zw.t185 : List SE := ncL [⟨.len, (ch 1000), (.int .i64 0), (ch 1002)⟩,
  ⟨.bin .lss, (.int .i64 2), (ch 1002), (.bool true)⟩,
  ⟨.idx 1, (ch 1000), (.int .i64 2), (.pointer (some ⟨8, 0, none⟩))⟩,
  ⟨.bin .rem, (ch 1001), (.int .i64 5), (ch 1003)⟩,
  ⟨.bin .add, (ch 1003), (.int .i64 5), (ch 1004)⟩,
  ⟨.bin .rem, (ch 1004), (.int .i64 5), (.int .i64 2)⟩]
theorem Zw.i185 : Zw.d56.sub 8 [[(ch 1001)]] (idl 8 Zw.d56.objs) (idA 1) (Zw.d56.st 8 []) = true := by kernel_rfl
theorem Zw.r185 : leafNext (fK (Tryz.Es Tryz.m4 (syOf Zw.t185)) 100000 100000 Zw.p0 (Zw.d56.st 8 [[(ch 1001)]]) 4) 8 Zw.d131 [(10, 10), (11, 11), (12, 12), (13, 13), (14, 29)] [(ch 1000)] = some Zw.p0 := by kernel_rfl
noncomputable def Zw.t189 : List SE := ncL [⟨.len, (ch 1000), (.int .i64 0), (ch 1002)⟩,
  ⟨.bin .lss, (.int .i64 2), (ch 1002), (.bool true)⟩,
  ⟨.idx 1, (ch 1000), (.int .i64 2), (.pointer (some ⟨8, 0, none⟩))⟩,
  ⟨.bin .rem, (ch 1001), (.int .i64 5), (ch 1003)⟩,
  ⟨.bin .add, (ch 1003), (.int .i64 5), (ch 1004)⟩,
  ⟨.bin .rem, (ch 1004), (.int .i64 5), (.int .i64 0)⟩]
theorem Zw.i189 : Zw.d57.sub 8 [[(ch 1001)]] (idl 8 Zw.d57.objs) (idA 1) (Zw.d57.st 8 []) = true := by kernel_rfl
theorem Zw.r189 : leafNext (fK (Tryz.Es Tryz.m4 (syOf Zw.t189)) 100000 100000 Zw.p0 (Zw.d57.st 8 [[(ch 1001)]]) 2) 8 Zw.d134 [(10, 10), (11, 11), (12, 12), (13, 13), (14, 20)] [(ch 1000)] = some Zw.p0 := by kernel_rfl
noncomputable def Zw.t193 : List SE := ncL [⟨.len, (ch 1000), (.int .i64 0), (ch 1002)⟩,
  ⟨.bin .lss, (.int .i64 2), (ch 1002), (.bool true)⟩,
  ⟨.idx 1, (ch 1000), (.int .i64 2), (.pointer (some ⟨8, 0, none⟩))⟩,
  ⟨.bin .rem, (ch 1001), (.int .i64 5), (ch 1003)⟩,
  ⟨.bin .add, (ch 1003), (.int .i64 5), (ch 1004)⟩,
  ⟨.bin .rem, (ch 1004), (.int .i64 5), (.int .i64 4)⟩]
theorem Zw.i193 : Zw.d57.sub 8 [[(ch 1001)]] (idl 8 Zw.d57.objs) (idA 1) (Zw.d57.st 8 []) = true := by kernel_rfl
theorem Zw.r193 : leafNext (fK (Tryz.Es Tryz.m4 (syOf Zw.t193)) 100000 100000 Zw.p0 (Zw.d57.st 8 [[(ch 1001)]]) 6) 8 Zw.d138 [(10, 10), (11, 11), (12, 12), (13, 13), (14, 42)] [(ch 1000)] = some Zw.p0 := by kernel_rfl
noncomputable def Zw.t197 : List SE := ncL [⟨.len, (ch 1000), (.int .i64 0), (ch 1002)⟩,
  ⟨.bin .lss, (.int .i64 2), (ch 1002), (.bool true)⟩,
  ⟨.idx 1, (ch 1000), (.int .i64 2), (.pointer (some ⟨8, 0, none⟩))⟩,
  ⟨.bin .rem, (ch 1001), (.int .i64 5), (ch 1003)⟩,
  ⟨.bin .add, (ch 1003), (.int .i64 5), (ch 1004)⟩,
  ⟨.bin .rem, (ch 1004), (.int .i64 5), (.int .i64 2)⟩]
theorem Zw.i197 : Zw.d58.sub 8 [[(ch 1001)]] (idl 8 Zw.d58.objs) (idA 1) (Zw.d58.st 8 []) = true := by kernel_rfl
theorem Zw.r197 : leafNext (fK (Tryz.Es Tryz.m4 (syOf Zw.t197)) 100000 100000 Zw.p0 (Zw.d58.st 8 [[(ch 1001)]]) 4) 8 Zw.d141 [(10, 10), (11, 11), (12, 12), (13, 13), (14, 29)] [(ch 1000)] = some Zw.p0 := by kernel_rfl
noncomputable def Zw.t201 : List SE := ncL [⟨.len, (ch 1000), (.int .i64 0), (ch 1002)⟩,
  ⟨.bin .lss, (.int .i64 2), (ch 1002), (.bool true)⟩,
  ⟨.idx 1, (ch 1000), (.int .i64 2), (.pointer (some ⟨8, 0, none⟩))⟩,
  ⟨.bin .rem, (ch 1001), (.int .i64 5), (ch 1003)⟩,
  ⟨.bin .add, (ch 1003), (.int .i64 5), (ch 1004)⟩,
  ⟨.bin .rem, (ch 1004), (.int .i64 5), (.int .i64 0)⟩]
theorem Zw.i201 : Zw.d59.sub 8 [[(ch 1001)]] (idl 8 Zw.d59.objs) (idA 1) (Zw.d59.st 8 []) = true := by kernel_rfl
theorem Zw.r201 : leafNext (fK (Tryz.Es Tryz.m4 (syOf Zw.t201)) 100000 100000 Zw.p0 (Zw.d59.st 8 [[(ch 1001)]]) 2) 8 Zw.d144 [(10, 10), (11, 11), (12, 12), (13, 13), (14, 20)] [(ch 1000)] = some Zw.p0 := by kernel_rfl
noncomputable def Zw.t205 : List SE := ncL [⟨.len, (ch 1000), (.int .i64 0), (ch 1002)⟩,
  ⟨.bin .lss, (.int .i64 2), (ch 1002), (.bool true)⟩,
  ⟨.idx 1, (ch 1000), (.int .i64 2), (.pointer (some ⟨8, 0, none⟩))⟩,
  ⟨.bin .rem, (ch 1001), (.int .i64 5), (ch 1003)⟩,
  ⟨.bin .add, (ch 1003), (.int .i64 5), (ch 1004)⟩,
  ⟨.bin .rem, (ch 1004), (.int .i64 5), (.int .i64 4)⟩]
theorem Zw.i205 : Zw.d59.sub 8 [[(ch 1001)]] (idl 8 Zw.d59.objs) (idA 1) (Zw.d59.st 8 []) = true := by kernel_rfl
theorem Zw.r205 : leafNext (fK (Tryz.Es Tryz.m4 (syOf Zw.t205)) 100000 100000 Zw.p0 (Zw.d59.st 8 [[(ch 1001)]]) 6) 8 Zw.d148 [(10, 10), (11, 11), (12, 12), (13, 13), (14, 42)] [(ch 1000)] = some Zw.p0 := by kernel_rfl
noncomputable def Zw.t209 : List SE := ncL [⟨.len, (ch 1000), (.int .i64 0), (ch 1002)⟩,
  ⟨.bin .lss, (.int .i64 2), (ch 1002), (.bool true)⟩,
  ⟨.idx 1, (ch 1000), (.int .i64 2), (.pointer (some ⟨8, 0, none⟩))⟩,
  ⟨.bin .rem, (ch 1001), (.int .i64 5), (ch 1003)⟩,
  ⟨.bin .add, (ch 1003), (.int .i64 5), (ch 1004)⟩,
  ⟨.bin .rem, (ch 1004), (.int .i64 5), (.int .i64 2)⟩]
theorem Zw.i209 : Zw.d60.sub 8 [[(ch 1001)]] (idl 8 Zw.d60.objs) (idA 1) (Zw.d60.st 8 []) = true := by kernel_rfl
theorem Zw.r209 : leafNext (fK (Tryz.Es Tryz.m4 (syOf Zw.t209)) 100000 100000 Zw.p0 (Zw.d60.st 8 [[(ch 1001)]]) 4) 8 Zw.d151 [(10, 10), (11, 11), (12, 12), (13, 13), (14, 29)] [(ch 1000)] = some Zw.p0 := by kernel_rfl
noncomputable def Zw.t213 : List SE := ncL [⟨.len, (ch 1000), (.int .i64 0), (ch 1002)⟩,
  ⟨.bin .lss, (.int .i64 2), (ch 1002), (.bool true)⟩,
  ⟨.idx 1, (ch 1000), (.int .i64 2), (.pointer (some ⟨8, 0, none⟩))⟩,
  ⟨.bin .rem, (ch 1001), (.int .i64 5), (ch 1003)⟩,
  ⟨.bin .add, (ch 1003), (.int .i64 5), (ch 1004)⟩,
  ⟨.bin .rem, (ch 1004), (.int .i64 5), (.int .i64 0)⟩]
theorem Zw.i213 : Zw.d61.sub 8 [[(ch 1001)]] (idl 8 Zw.d61.objs) (idA 1) (Zw.d61.st 8 []) = true := by kernel_rfl
theorem Zw.r213 : leafNext (fK (Tryz.Es Tryz.m4 (syOf Zw.t213)) 100000 100000 Zw.p0 (Zw.d61.st 8 [[(ch 1001)]]) 2) 8 Zw.d154 [(10, 10), (11, 11), (12, 12), (13, 13), (14, 20)] [(ch 1000)] = some Zw.p0 := by kernel_rfl
noncomputable def Zw.t217 : List SE := ncL [⟨.len, (ch 1000), (.int .i64 0), (ch 1002)⟩,
  ⟨.bin .lss, (.int .i64 2), (ch 1002), (.bool true)⟩,
  ⟨.idx 1, (ch 1000), (.int .i64 2), (.pointer (some ⟨8, 0, none⟩))⟩,
  ⟨.bin .rem, (ch 1001), (.int .i64 5), (ch 1003)⟩,
  ⟨.bin .add, (ch 1003), (.int .i64 5), (ch 1004)⟩,
  ⟨.bin .rem, (ch 1004), (.int .i64 5), (.int .i64 4)⟩]
theorem Zw.i217 : Zw.d61.sub 8 [[(ch 1001)]] (idl 8 Zw.d61.objs) (idA 1) (Zw.d61.st 8 []) = true := by kernel_rfl
theorem Zw.r217 : leafNext (fK (Tryz.Es Tryz.m4 (syOf Zw.t217)) 100000 100000 Zw.p0 (Zw.d61.st 8 [[(ch 1001)]]) 6) 8 Zw.d158 [(10, 10), (11, 11), (12, 12), (13, 13), (14, 42)] [(ch 1000)] = some Zw.p0 := by kernel_rfl
noncomputable def Zw.t221 : List SE := ncL [⟨.len, (ch 1000), (.int .i64 0), (ch 1002)⟩,
  ⟨.bin .lss, (.int .i64 2), (ch 1002), (.bool true)⟩,
  ⟨.idx 1, (ch 1000), (.int .i64 2), (.pointer (some ⟨8, 0, none⟩))⟩,
  ⟨.bin .rem, (ch 1001), (.int .i64 5), (ch 1003)⟩,
  ⟨.bin .add, (ch 1003), (.int .i64 5), (ch 1004)⟩,
  ⟨.bin .rem, (ch 1004), (.int .i64 5), (.int .i64 2)⟩]
theorem Zw.i221 : Zw.d62.sub 8 [[(ch 1001)]] (idl 8 Zw.d62.objs) (idA 1) (Zw.d62.st 8 []) = true := by kernel_rfl
theorem Zw.r221 : leafNext (fK (Tryz.Es Tryz.m4 (syOf Zw.t221)) 100000 100000 Zw.p0 (Zw.d62.st 8 [[(ch 1001)]]) 4) 8 Zw.d161 [(10, 10), (11, 11), (12, 12), (13, 13), (14, 29)] [(ch 1000)] = some Zw.p0 := by kernel_rfl
noncomputable def Zw.t225 : List SE := ncL [⟨.len, (ch 1000), (.int .i64 0), (ch 1002)⟩,
  ⟨.bin .lss, (.int .i64 2), (ch 1002), (.bool true)⟩,
  ⟨.idx 1, (ch 1000), (.int .i64 2), (.pointer (some ⟨8, 0, none⟩))⟩,
  ⟨.bin .rem, (ch 1001), (.int .i64 5), (ch 1003)⟩,
  ⟨.bin .add, (ch 1003), (.int .i64 5), (ch 1004)⟩,
  ⟨.bin .rem, (ch 1004), (.int .i64 5), (.int .i64 0)⟩]
theorem Zw.i225 : Zw.d63.sub 8 [[(ch 1001)]] (idl 8 Zw.d63.objs) (idA 1) (Zw.d63.st 8 []) = true := by kernel_rfl
theorem Zw.r225 : leafNext (fK (Tryz.Es Tryz.m4 (syOf Zw.t225)) 100000 100000 Zw.p0 (Zw.d63.st 8 [[(ch 1001)]]) 2) 8 Zw.d164 [(10, 10), (11, 11), (12, 12), (13, 13), (14, 20)] [(ch 1000)] = some Zw.p0 := by kernel_rfl
noncomputable def Zw.t229 : List SE := ncL [⟨.len, (ch 1000), (.int .i64 0), (ch 1002)⟩,
  ⟨.bin .lss, (.int .i64 2), (ch 1002), (.bool true)⟩,
  ⟨.idx 1, (ch 1000), (.int .i64 2), (.pointer (some ⟨8, 0, none⟩))⟩,
  ⟨.bin .rem, (ch 1001), (.int .i64 5), (ch 1003)⟩,
  ⟨.bin .add, (ch 1003), (.int .i64 5), (ch 1004)⟩,
  ⟨.bin .rem, (ch 1004), (.int .i64 5), (.int .i64 4)⟩]
theorem Zw.i229 : Zw.d63.sub 8 [[(ch 1001)]] (idl 8 Zw.d63.objs) (idA 1) (Zw.d63.st 8 []) = true := by kernel_rfl
theorem Zw.r229 : leafNext (fK (Tryz.Es Tryz.m4 (syOf Zw.t229)) 100000 100000 Zw.p0 (Zw.d63.st 8 [[(ch 1001)]]) 6) 8 Zw.d168 [(10, 10), (11, 11), (12, 12), (13, 13), (14, 42)] [(ch 1000)] = some Zw.p0 := by kernel_rfl
noncomputable def Zw.t233 : List SE := ncL [⟨.len, (ch 1000), (.int .i64 0), (ch 1002)⟩,
  ⟨.bin .lss, (.int .i64 2), (ch 1002), (.bool true)⟩,
  ⟨.idx 1, (ch 1000), (.int .i64 2), (.pointer (some ⟨8, 0, none⟩))⟩,
  ⟨.bin .rem, (ch 1001), (.int .i64 5), (ch 1003)⟩,
  ⟨.bin .add, (ch 1003), (.int .i64 5), (ch 1004)⟩,
  ⟨.bin .rem, (ch 1004), (.int .i64 5), (.int .i64 2)⟩]
theorem Zw.i233 : Zw.d64.sub 8 [[(ch 1001)]] (idl 8 Zw.d64.objs) (idA 1) (Zw.d64.st 8 []) = true := by kernel_rfl
theorem Zw.r233 : leafNext (fK (Tryz.Es Tryz.m4 (syOf Zw.t233)) 100000 100000 Zw.p0 (Zw.d64.st 8 [[(ch 1001)]]) 4) 8 Zw.d171 [(10, 10), (11, 11), (12, 12), (13, 13), (14, 29)] [(ch 1000)] = some Zw.p0 := by kernel_rfl
noncomputable def Zw.t237 : List SE := ncL [⟨.len, (ch 1000), (.int .i64 0), (ch 1002)⟩,
  ⟨.bin .lss, (.int .i64 2), (ch 1002), (.bool true)⟩,
  ⟨.idx 1, (ch 1000), (.int .i64 2), (.pointer (some ⟨8, 0, none⟩))⟩,
  ⟨.bin .rem, (ch 1001), (.int .i64 5), (ch 1003)⟩,
  ⟨.bin .add, (ch 1003), (.int .i64 5), (ch 1004)⟩,
  ⟨.bin .rem, (ch 1004), (.int .i64 5), (.int .i64 0)⟩]
theorem Zw.i237 : Zw.d65.sub 8 [[(ch 1001)]] (idl 8 Zw.d65.objs) (idA 1) (Zw.d65.st 8 []) = true := by kernel_rfl
theorem Zw.r237 : leafNext (fK (Tryz.Es Tryz.m4 (syOf Zw.t237)) 100000 100000 Zw.p0 (Zw.d65.st 8 [[(ch 1001)]]) 2) 8 Zw.d174 [(10, 10), (11, 11), (12, 12), (13, 13), (14, 20)] [(ch 1000)] = some Zw.p0 := by kernel_rfl
noncomputable def Zw.t241 : List SE := ncL [⟨.len, (ch 1000), (.int .i64 0), (ch 1002)⟩,
  ⟨.bin .lss, (.int .i64 2), (ch 1002), (.bool true)⟩,
  ⟨.idx 1, (ch 1000), (.int .i64 2), (.pointer (some ⟨8, 0, none⟩))⟩,
  ⟨.bin .rem, (ch 1001), (.int .i64 5), (ch 1003)⟩,
  ⟨.bin .add, (ch 1003), (.int .i64 5), (ch 1004)⟩,
  ⟨.bin .rem, (ch 1004), (.int .i64 5), (.int .i64 4)⟩]
theorem Zw.i241 : Zw.d65.sub 8 [[(ch 1001)]] (idl 8 Zw.d65.objs) (idA 1) (Zw.d65.st 8 []) = true := by kernel_rfl
theorem Zw.r241 : leafNext (fK (Tryz.Es Tryz.m4 (syOf Zw.t241)) 100000 100000 Zw.p0 (Zw.d65.st 8 [[(ch 1001)]]) 6) 8 Zw.d178 [(10, 10), (11, 11), (12, 12), (13, 13), (14, 42)] [(ch 1000)] = some Zw.p0 := by kernel_rfl
noncomputable def Zw.t245 : List SE := ncL [⟨.len, (ch 1000), (.int .i64 0), (ch 1002)⟩,
  ⟨.bin .lss, (.int .i64 2), (ch 1002), (.bool true)⟩,
  ⟨.idx 1, (ch 1000), (.int .i64 2), (.pointer (some ⟨8, 0, none⟩))⟩,
  ⟨.bin .rem, (ch 1001), (.int .i64 5), (ch 1003)⟩,
  ⟨.bin .add, (ch 1003), (.int .i64 5), (ch 1004)⟩,
  ⟨.bin .rem, (ch 1004), (.int .i64 5), (.int .i64 2)⟩]
theorem Zw.i245 : Zw.d66.sub 8 [[(ch 1001)]] (idl 8 Zw.d66.objs) (idA 1) (Zw.d66.st 8 []) = true := by kernel_rfl
theorem Zw.r245 : leafNext (fK (Tryz.Es Tryz.m4 (syOf Zw.t245)) 100000 100000 Zw.p0 (Zw.d66.st 8 [[(ch 1001)]]) 4) 8 Zw.d181 [(10, 10), (11, 11), (12, 12), (13, 13), (14, 29)] [(ch 1000)] = some Zw.p0 := by kernel_rfl
noncomputable def Zw.t249 : List SE := ncL [⟨.len, (ch 1000), (.int .i64 0), (ch 1002)⟩,
  ⟨.bin .lss, (.int .i64 2), (ch 1002), (.bool true)⟩,
  ⟨.idx 1, (ch 1000), (.int .i64 2), (.pointer (some ⟨8, 0, none⟩))⟩,
  ⟨.bin .rem, (ch 1001), (.int .i64 5), (ch 1003)⟩,
  ⟨.bin .add, (ch 1003), (.int .i64 5), (ch 1004)⟩,
  ⟨.bin .rem, (ch 1004), (.int .i64 5), (.int .i64 0)⟩]
theorem Zw.i249 : Zw.d67.sub 8 [[(ch 1001)]] (idl 8 Zw.d67.objs) (idA 1) (Zw.d67.st 8 []) = true := by kernel_rfl
theorem Zw.r249 : leafNext (fK (Tryz.Es Tryz.m4 (syOf Zw.t249)) 100000 100000 Zw.p0 (Zw.d67.st 8 [[(ch 1001)]]) 2) 8 Zw.d184 [(10, 10), (11, 11), (12, 12), (13, 13), (14, 20)] [(ch 1000)] = some Zw.p0 := by kernel_rfl
noncomputable def Zw.t253 : List SE := ncL [⟨.len, (ch 1000), (.int .i64 0), (ch 1002)⟩,
  ⟨.bin .lss, (.int .i64 2), (ch 1002), (.bool true)⟩,
  ⟨.idx 1, (ch 1000), (.int .i64 2), (.pointer (some ⟨8, 0, none⟩))⟩,
  ⟨.bin .rem, (ch 1001), (.int .i64 5), (ch 1003)⟩,
  ⟨.bin .add, (ch 1003), (.int .i64 5), (ch 1004)⟩,
  ⟨.bin .rem, (ch 1004), (.int .i64 5), (.int .i64 4)⟩]
theorem Zw.i253 : Zw.d67.sub 8 [[(ch 1001)]] (idl 8 Zw.d67.objs) (idA 1) (Zw.d67.st 8 []) = true := by kernel_rfl
theorem Zw.r253 : leafNext (fK (Tryz.Es Tryz.m4 (syOf Zw.t253)) 100000 100000 Zw.p0 (Zw.d67.st 8 [[(ch 1001)]]) 6) 8 Zw.d188 [(10, 10), (11, 11), (12, 12), (13, 13), (14, 42)] [(ch 1000)] = some Zw.p0 := by kernel_rfl
noncomputable def Zw.t257 : List SE := ncL [⟨.len, (ch 1000), (.int .i64 0), (ch 1002)⟩,
  ⟨.bin .lss, (.int .i64 2), (ch 1002), (.bool true)⟩,
  ⟨.idx 1, (ch 1000), (.int .i64 2), (.pointer (some ⟨8, 0, none⟩))⟩,
  ⟨.bin .rem, (ch 1001), (.int .i64 5), (ch 1003)⟩,
  ⟨.bin .add, (ch 1003), (.int .i64 5), (ch 1004)⟩,
  ⟨.bin .rem, (ch 1004), (.int .i64 5), (.int .i64 2)⟩]
theorem Zw.i257 : Zw.d68.sub 8 [[(ch 1001)]] (idl 8 Zw.d68.objs) (idA 1) (Zw.d68.st 8 []) = true := by kernel_rfl
theorem Zw.r257 : leafNext (fK (Tryz.Es Tryz.m4 (syOf Zw.t257)) 100000 100000 Zw.p0 (Zw.d68.st 8 [[(ch 1001)]]) 4) 8 Zw.d191 [(10, 10), (11, 11), (12, 12), (13, 13), (14, 29)] [(ch 1000)] = some Zw.p0 := by kernel_rfl
noncomputable def Zw.t261 : List SE := ncL []
theorem Zw.i261 : Zw.d69.sub 8 [] (idl 8 Zw.d69.objs) (idA 1) (Zw.d69.st 8 []) = true := by kernel_rfl
theorem Zw.r261 : leafFin (Tryz.Es Tryz.m4 (syOf Zw.t261)) Tryz.f6 (fK (Tryz.Es Tryz.m4 (syOf Zw.t261)) 100000 100000 Zw.p0 (Zw.d69.st 8 []) 6) = true := by kernel_rfl
noncomputable def Zw.t265 : List SE := ncL []
theorem Zw.i265 : Zw.d73.sub 8 [] (idl 8 Zw.d73.objs) (idA 1) (Zw.d73.st 8 []) = true := by kernel_rfl
theorem Zw.r265 : leafFin (Tryz.Es Tryz.m4 (syOf Zw.t265)) Tryz.f6 (fK (Tryz.Es Tryz.m4 (syOf Zw.t265)) 100000 100000 Zw.p0 (Zw.d73.st 8 []) 10) = true := by kernel_rfl
noncomputable def Zw.t269 : List SE := ncL []
theorem Zw.i269 : Zw.d77.sub 8 [] (idl 8 Zw.d77.objs) (idA 1) (Zw.d77.st 8 []) = true := by kernel_rfl
theorem Zw.r269 : leafFin (Tryz.Es Tryz.m4 (syOf Zw.t269)) Tryz.f6 (fK (Tryz.Es Tryz.m4 (syOf Zw.t269)) 100000 100000 Zw.p0 (Zw.d77.st 8 []) 10) = true := by kernel_rfl
noncomputable def Zw.t273 : List SE := ncL []
theorem Zw.i273 : Zw.d81.sub 8 [] (idl 8 Zw.d81.objs) (idA 1) (Zw.d81.st 8 []) = true := by kernel_rfl
theorem Zw.r273 : leafFin (Tryz.Es Tryz.m4 (syOf Zw.t273)) Tryz.f6 (fK (Tryz.Es Tryz.m4 (syOf Zw.t273)) 100000 100000 Zw.p0 (Zw.d81.st 8 []) 10) = true := by kernel_rfl
noncomputable def Zw.t277 : List SE := ncL []
theorem Zw.i277 : Zw.d85.sub 8 [] (idl 8 Zw.d85.objs) (idA 1) (Zw.d85.st 8 []) = true := by kernel_rfl
theorem Zw.r277 : leafFin (Tryz.Es Tryz.m4 (syOf Zw.t277)) Tryz.f6 (fK (Tryz.Es Tryz.m4 (syOf Zw.t277)) 100000 100000 Zw.p0 (Zw.d85.st 8 []) 10) = true := by kernel_rfl
noncomputable def Zw.t281 : List SE := ncL []
theorem Zw.i281 : Zw.d89.sub 8 [] (idl 8 Zw.d89.objs) (idA 1) (Zw.d89.st 8 []) = true := by kernel_rfl
theorem Zw.r281 : leafFin (Tryz.Es Tryz.m4 (syOf Zw.t281)) Tryz.f6 (fK (Tryz.Es Tryz.m4 (syOf Zw.t281)) 100000 100000 Zw.p0 (Zw.d89.st 8 []) 10) = true := by kernel_rfl
noncomputable def Zw.t285 : List SE := ncL []
theorem Zw.i285 : Zw.d93.sub 8 [] (idl 8 Zw.d93.objs) (idA 1) (Zw.d93.st 8 []) = true := by kernel_rfl
theorem Zw.r285 : leafFin (Tryz.Es Tryz.m4 (syOf Zw.t285)) Tryz.f6 (fK (Tryz.Es Tryz.m4 (syOf Zw.t285)) 100000 100000 Zw.p0 (Zw.d93.st 8 []) 14) = true := by kernel_rfl
noncomputable def Zw.t289 : List SE := ncL []
theorem Zw.i289 : Zw.d97.sub 8 [] (idl 8 Zw.d97.objs) (idA 1) (Zw.d97.st 8 []) = true := by kernel_rfl
theorem Zw.r289 : leafFin (Tryz.Es Tryz.m4 (syOf Zw.t289)) Tryz.f6 (fK (Tryz.Es Tryz.m4 (syOf Zw.t289)) 100000 100000 Zw.p0 (Zw.d97.st 8 []) 10) = true := by kernel_rfl
noncomputable def Zw.t293 : List SE := ncL []
theorem Zw.i293 : Zw.d101.sub 8 [] (idl 8 Zw.d101.objs) (idA 1) (Zw.d101.st 8 []) = true := by kernel_rfl
theorem Zw.r293 : leafFin (Tryz.Es Tryz.m4 (syOf Zw.t293)) Tryz.f6 (fK (Tryz.Es Tryz.m4 (syOf Zw.t293)) 100000 100000 Zw.p0 (Zw.d101.st 8 []) 10) = true := by kernel_rfl
noncomputable def Zw.t297 : List SE := ncL []
theorem Zw.i297 : Zw.d105.sub 8 [] (idl 8 Zw.d105.objs) (idA 1) (Zw.d105.st 8 []) = true := by kernel_rfl
theorem Zw.r297 : leafFin (Tryz.Es Tryz.m4 (syOf Zw.t297)) Tryz.f6 (fK (Tryz.Es Tryz.m4 (syOf Zw.t297)) 100000 100000 Zw.p0 (Zw.d105.st 8 []) 10) = true := by kernel_rfl
noncomputable def Zw.t301 : List SE := ncL []
theorem Zw.i301 : Zw.d109.sub 8 [] (idl 8 Zw.d109.objs) (idA 1) (Zw.d109.st 8 []) = true := by kernel_rfl
theorem Zw.r301 : leafFin (Tryz.Es Tryz.m4 (syOf Zw.t301)) Tryz.f6 (fK (Tryz.Es Tryz.m4 (syOf Zw.t301)) 100000 100000 Zw.p0 (Zw.d109.st 8 []) 10) = true := by kernel_rfl
noncomputable def Zw.t305 : List SE := ncL []
theorem Zw.i305 : Zw.d113.sub 8 [] (idl 8 Zw.d113.objs) (idA 1) (Zw.d113.st 8 []) = true := by kernel_rfl
theorem Zw.r305 : leafFin (Tryz.Es Tryz.m4 (syOf Zw.t305)) Tryz.f6 (fK (Tryz.Es Tryz.m4 (syOf Zw.t305)) 100000 100000 Zw.p0 (Zw.d113.st 8 []) 14) = true := by kernel_rfl
noncomputable def Zw.t309 : List SE := ncL []
theorem Zw.i309 : Zw.d117.sub 8 [] (idl 8 Zw.d117.objs) (idA 1) (Zw.d117.st 8 []) = true := by kernel_rfl
theorem Zw.r309 : leafFin (Tryz.Es Tryz.m4 (syOf Zw.t309)) Tryz.f6 (fK (Tryz.Es Tryz.m4 (syOf Zw.t309)) 100000 100000 Zw.p0 (Zw.d117.st 8 []) 14) = true := by kernel_rfl
noncomputable def Zw.t313 : List SE := ncL []
theorem Zw.i313 : Zw.d121.sub 8 [] (idl 8 Zw.d121.objs) (idA 1) (Zw.d121.st 8 []) = true := by kernel_rfl
theorem Zw.r313 : leafFin (Tryz.Es Tryz.m4 (syOf Zw.t313)) Tryz.f6 (fK (Tryz.Es Tryz.m4 (syOf Zw.t313)) 100000 100000 Zw.p0 (Zw.d121.st 8 []) 10) = true := by kernel_rfl
noncomputable def Zw.t317 : List SE := ncL []
theorem Zw.i317 : Zw.d125.sub 8 [] (idl 8 Zw.d125.objs) (idA 1) (Zw.d125.st 8 []) = true := by kernel_rfl
theorem Zw.r317 : leafFin (Tryz.Es Tryz.m4 (syOf Zw.t317)) Tryz.f6 (fK (Tryz.Es Tryz.m4 (syOf Zw.t317)) 100000 100000 Zw.p0 (Zw.d125.st 8 []) 10) = true := by kernel_rfl
noncomputable def Zw.t321 : List SE := ncL []
theorem Zw.i321 : Zw.d129.sub 8 [] (idl 8 Zw.d129.objs) (idA 1) (Zw.d129.st 8 []) = true := by kernel_rfl
theorem Zw.r321 : leafFin (Tryz.Es Tryz.m4 (syOf Zw.t321)) Tryz.f6 (fK (Tryz.Es Tryz.m4 (syOf Zw.t321)) 100000 100000 Zw.p0 (Zw.d129.st 8 []) 10) = true := by kernel_rfl
noncomputable def Zw.t325 : List SE := ncL []
theorem Zw.i325 : Zw.d133.sub 8 [] (idl 8 Zw.d133.objs) (idA 1) (Zw.d133.st 8 []) = true := by kernel_rfl
theorem Zw.r325 : leafFin (Tryz.Es Tryz.m4 (syOf Zw.t325)) Tryz.f6 (fK (Tryz.Es Tryz.m4 (syOf Zw.t325)) 100000 100000 Zw.p0 (Zw.d133.st 8 []) 14) = true := by kernel_rfl
noncomputable def Zw.t329 : List SE := ncL []
theorem Zw.i329 : Zw.d137.sub 8 [] (idl 8 Zw.d137.objs) (idA 1) (Zw.d137.st 8 []) = true := by kernel_rfl
theorem Zw.r329 : leafFin (Tryz.Es Tryz.m4 (syOf Zw.t329)) Tryz.f6 (fK (Tryz.Es Tryz.m4 (syOf Zw.t329)) 100000 100000 Zw.p0 (Zw.d137.st 8 []) 14) = true := by kernel_rfl
noncomputable def Zw.t333 : List SE := ncL []
theorem Zw.i333 : Zw.d141.sub 8 [] (idl 8 Zw.d141.objs) (idA 1) (Zw.d141.st 8 []) = true := by kernel_rfl
theorem Zw.r333 : leafFin (Tryz.Es Tryz.m4 (syOf Zw.t333)) Tryz.f6 (fK (Tryz.Es Tryz.m4 (syOf Zw.t333)) 100000 100000 Zw.p0 (Zw.d141.st 8 []) 14) = true := by kernel_rfl
noncomputable def Zw.t337 : List SE := ncL []
theorem Zw.i337 : Zw.d145.sub 8 [] (idl 8 Zw.d145.objs) (idA 1) (Zw.d145.st 8 []) = true := by kernel_rfl
theorem Zw.r337 : leafFin (Tryz.Es Tryz.m4 (syOf Zw.t337)) Tryz.f6 (fK (Tryz.Es Tryz.m4 (syOf Zw.t337)) 100000 100000 Zw.p0 (Zw.d145.st 8 []) 10) = true := by kernel_rfl
noncomputable def Zw.t341 : List SE := ncL []
theorem Zw.i341 : Zw.d149.sub 8 [] (idl 8 Zw.d149.objs) (idA 1) (Zw.d149.st 8 []) = true := by kernel_rfl
theorem Zw.r341 : leafFin (Tryz.Es Tryz.m4 (syOf Zw.t341)) Tryz.f6 (fK (Tryz.Es Tryz.m4 (syOf Zw.t341)) 100000 100000 Zw.p0 (Zw.d149.st 8 []) 10) = true := by kernel_rfl
noncomputable def Zw.t345 : List SE := ncL []
theorem Zw.i345 : Zw.d153.sub 8 [] (idl 8 Zw.d153.objs) (idA 1) (Zw.d153.st 8 []) = true := by kernel_rfl
theorem Zw.r345 : leafFin (Tryz.Es Tryz.m4 (syOf Zw.t345)) Tryz.f6 (fK (Tryz.Es Tryz.m4 (syOf Zw.t345)) 100000 100000 Zw.p0 (Zw.d153.st 8 []) 14) = true := by kernel_rfl
noncomputable def Zw.t349 : List SE := ncL []
theorem Zw.i349 : Zw.d157.sub 8 [] (idl 8 Zw.d157.objs) (idA 1) (Zw.d157.st 8 []) = true := by kernel_rfl
theorem Zw.r349 : leafFin (Tryz.Es Tryz.m4 (syOf Zw.t349)) Tryz.f6 (fK (Tryz.Es Tryz.m4 (syOf Zw.t349)) 100000 100000 Zw.p0 (Zw.d157.st 8 []) 14) = true := by kernel_rfl
noncomputable def Zw.t353 : List SE := ncL []
theorem Zw.i353 : Zw.d161.sub 8 [] (idl 8 Zw.d161.objs) (idA 1) (Zw.d161.st 8 []) = true := by kernel_rfl
theorem Zw.r353 : leafFin (Tryz.Es Tryz.m4 (syOf Zw.t353)) Tryz.f6 (fK (Tryz.Es Tryz.m4 (syOf Zw.t353)) 100000 100000 Zw.p0 (Zw.d161.st 8 []) 14) = true := by kernel_rfl
noncomputable def Zw.t357 : List SE := ncL []
theorem Zw.i357 : Zw.d165.sub 8 [] (idl 8 Zw.d165.objs) (idA 1) (Zw.d165.st 8 []) = true := by kernel_rfl
theorem Zw.r357 : leafFin (Tryz.Es Tryz.m4 (syOf Zw.t357)) Tryz.f6 (fK (Tryz.Es Tryz.m4 (syOf Zw.t357)) 100000 100000 Zw.p0 (Zw.d165.st 8 []) 14) = true := by kernel_rfl
noncomputable def Zw.t361 : List SE := ncL []
theorem Zw.i361 : Zw.d169.sub 8 [] (idl 8 Zw.d169.objs) (idA 1) (Zw.d169.st 8 []) = true := by kernel_rfl
theorem Zw.r361 : leafFin (Tryz.Es Tryz.m4 (syOf Zw.t361)) Tryz.f6 (fK (Tryz.Es Tryz.m4 (syOf Zw.t361)) 100000 100000 Zw.p0 (Zw.d169.st 8 []) 10) = true := by kernel_rfl
noncomputable def Zw.t365 : List SE := ncL []
theorem Zw.i365 : Zw.d173.sub 8 [] (idl 8 Zw.d173.objs) (idA 1) (Zw.d173.st 8 []) = true := by kernel_rfl
theorem Zw.r365 : leafFin (Tryz.Es Tryz.m4 (syOf Zw.t365)) Tryz.f6 (fK (Tryz.Es Tryz.m4 (syOf Zw.t365)) 100000 100000 Zw.p0 (Zw.d173.st 8 []) 14) = true := by kernel_rfl
noncomputable def Zw.t369 : List SE := ncL []
theorem Zw.i369 : Zw.d177.sub 8 [] (idl 8 Zw.d177.objs) (idA 1) (Zw.d177.st 8 []) = true := by kernel_rfl
theorem Zw.r369 : leafFin (Tryz.Es Tryz.m4 (syOf Zw.t369)) Tryz.f6 (fK (Tryz.Es Tryz.m4 (syOf Zw.t369)) 100000 100000 Zw.p0 (Zw.d177.st 8 []) 14) = true := by kernel_rfl
noncomputable def Zw.t373 : List SE := ncL []
theorem Zw.i373 : Zw.d181.sub 8 [] (idl 8 Zw.d181.objs) (idA 1) (Zw.d181.st 8 []) = true := by kernel_rfl
theorem Zw.r373 : leafFin (Tryz.Es Tryz.m4 (syOf Zw.t373)) Tryz.f6 (fK (Tryz.Es Tryz.m4 (syOf Zw.t373)) 100000 100000 Zw.p0 (Zw.d181.st 8 []) 14) = true := by kernel_rfl
noncomputable def Zw.t377 : List SE := ncL []
theorem Zw.i377 : Zw.d185.sub 8 [] (idl 8 Zw.d185.objs) (idA 1) (Zw.d185.st 8 []) = true := by kernel_rfl
theorem Zw.r377 : leafFin (Tryz.Es Tryz.m4 (syOf Zw.t377)) Tryz.f6 (fK (Tryz.Es Tryz.m4 (syOf Zw.t377)) 100000 100000 Zw.p0 (Zw.d185.st 8 []) 14) = true := by kernel_rfl
noncomputable def Zw.t381 : List SE := ncL []
theorem Zw.i381 : Zw.d189.sub 8 [] (idl 8 Zw.d189.objs) (idA 1) (Zw.d189.st 8 []) = true := by kernel_rfl
theorem Zw.r381 : leafFin (Tryz.Es Tryz.m4 (syOf Zw.t381)) Tryz.f6 (fK (Tryz.Es Tryz.m4 (syOf Zw.t381)) 100000 100000 Zw.p0 (Zw.d189.st 8 []) 14) = true := by kernel_rfl
noncomputable def Zw.t385 : List SE := ncL []
theorem Zw.i385 : Zw.d193.sub 8 [] (idl 8 Zw.d193.objs) (idA 1) (Zw.d193.st 8 []) = true := by kernel_rfl
theorem Zw.r385 : leafFin (Tryz.Es Tryz.m4 (syOf Zw.t385)) Tryz.f6 (fK (Tryz.Es Tryz.m4 (syOf Zw.t385)) 100000 100000 Zw.p0 (Zw.d193.st 8 []) 18) = true := by kernel_rfl
end
end Go.Proofs
