/- Pieces of the law's run, from node to node, answered by the executor. No conditions. -/
import Derived.Test.YtjmfbhlanjhnfaaGreatDoorVSeatTableSetNd
set_option linter.all false
namespace Go.Proofs
open Go Go.Vsx
set_option maxRecDepth 1000000
noncomputable section
noncomputable def Zw.t1 : List SE := ncL [⟨.bin .rem, (ch 1002), (.int .i64 8), (ch 1003)⟩,
  ⟨.bin .add, (ch 1003), (.int .i64 8), (ch 1004)⟩,
  ⟨.bin .rem, (ch 1004), (.int .i64 8), (.int .i64 1)⟩]
theorem Zw.i1 : Zw.d0.sub 8 [] (idl 8 Zw.d0.objs) (idA 3) (Zw.d0.st 8 []) = true := by kernel_rfl
theorem Zw.r1 : leafNext (fK (Tryz.Es Tryz.m4 (syOf Zw.t1)) 100000 100000 Zw.pS (Zw.d0.st 8 []) 0) 8 Zw.d2 [(10, 13), (11, 10), (12, 11), (13, 12)] [(ch 1000), (ch 1001), (.int .i64 0)] = some Zw.p0 := by kernel_rfl
noncomputable def Zw.t3 : List SE := ncL [⟨.bin .rem, (ch 1002), (.int .i64 8), (ch 1003)⟩,
  ⟨.bin .add, (ch 1003), (.int .i64 8), (ch 1004)⟩,
  ⟨.bin .rem, (ch 1004), (.int .i64 8), (.int .i64 3)⟩]
theorem Zw.i3 : Zw.d0.sub 8 [] (idl 8 Zw.d0.objs) (idA 3) (Zw.d0.st 8 []) = true := by kernel_rfl
theorem Zw.r3 : leafNext (fK (Tryz.Es Tryz.m4 (syOf Zw.t3)) 100000 100000 Zw.pS (Zw.d0.st 8 []) 0) 8 Zw.d4 [(10, 13), (11, 10), (12, 11), (13, 12)] [(ch 1000), (ch 1001), (.int .i64 0)] = some Zw.p0 := by kernel_rfl
noncomputable def Zw.t5 : List SE := ncL [⟨.bin .rem, (ch 1002), (.int .i64 8), (ch 1003)⟩,
  ⟨.bin .add, (ch 1003), (.int .i64 8), (ch 1004)⟩,
  ⟨.bin .rem, (ch 1004), (.int .i64 8), (.int .i64 5)⟩]
theorem Zw.i5 : Zw.d0.sub 8 [] (idl 8 Zw.d0.objs) (idA 3) (Zw.d0.st 8 []) = true := by kernel_rfl
theorem Zw.r5 : leafNext (fK (Tryz.Es Tryz.m4 (syOf Zw.t5)) 100000 100000 Zw.pS (Zw.d0.st 8 []) 0) 8 Zw.d6 [(10, 13), (11, 10), (12, 11), (13, 12)] [(ch 1000), (ch 1001), (.int .i64 0)] = some Zw.p0 := by kernel_rfl
noncomputable def Zw.t7 : List SE := ncL [⟨.bin .rem, (ch 1002), (.int .i64 8), (ch 1003)⟩,
  ⟨.bin .add, (ch 1003), (.int .i64 8), (ch 1004)⟩,
  ⟨.bin .rem, (ch 1004), (.int .i64 8), (.int .i64 7)⟩]
theorem Zw.i7 : Zw.d0.sub 8 [] (idl 8 Zw.d0.objs) (idA 3) (Zw.d0.st 8 []) = true := by kernel_rfl
theorem Zw.r7 : leafNext (fK (Tryz.Es Tryz.m4 (syOf Zw.t7)) 100000 100000 Zw.pS (Zw.d0.st 8 []) 0) 8 Zw.d8 [(10, 13), (11, 10), (12, 11), (13, 12)] [(ch 1000), (ch 1001), (.int .i64 0)] = some Zw.p0 := by kernel_rfl
noncomputable def Zw.t24 : List SE := ncL [⟨.len, (ch 1000), (.int .i64 0), (ch 1004)⟩,
  ⟨.bin .lss, (ch 1002), (ch 1004), (.bool true)⟩,
  ⟨.len, (ch 1001), (.int .i64 0), (ch 1005)⟩,
  ⟨.bin .lss, (ch 1002), (ch 1005), (.bool true)⟩,
  ⟨.bin .lss, (ch 1002), (.int .i64 30), (.bool true)⟩,
  ⟨.idx 1, (ch 1000), (ch 1002), (.pointer (some ⟨8, 0, none⟩))⟩,
  ⟨.idx 1, (ch 1001), (ch 1002), (.pointer (some ⟨9, 0, none⟩))⟩,
  ⟨.bin .add, (ch 1002), (.int .i64 1), (ch 1006)⟩]
theorem Zw.i24 : Zw.d1.sub 8 [[(ch 1003)], [(.bool false)]] (idl 8 Zw.d1.objs) (idA 3) (Zw.d1.st 8 []) = true := by kernel_rfl
theorem Zw.r24 : leafNext (fK (Tryz.Es Tryz.m4 (syOf Zw.t24)) 100000 100000 Zw.p0 (Zw.d1.st 8 [[(ch 1003)], [(.bool false)]]) 1) 8 Zw.d9 [(10, 10), (11, 11), (12, 12), (13, 13), (14, 67)] [(ch 1000), (ch 1001), (ch 1003), (ch 1006)] = some Zw.p0 := by kernel_rfl
noncomputable def Zw.t26 : List SE := ncL [⟨.len, (ch 1000), (.int .i64 0), (ch 1003)⟩,
  ⟨.bin .lss, (ch 1002), (ch 1003), (.bool true)⟩,
  ⟨.len, (ch 1001), (.int .i64 0), (ch 1004)⟩,
  ⟨.bin .lss, (ch 1002), (ch 1004), (.bool false)⟩]
theorem Zw.i26 : Zw.d1.sub 8 [] (idl 8 Zw.d1.objs) (idA 3) (Zw.d1.st 8 []) = true := by kernel_rfl
theorem Zw.r26 : leafFin (Tryz.Es Tryz.m4 (syOf Zw.t26)) Tryz.f4 (fK (Tryz.Es Tryz.m4 (syOf Zw.t26)) 100000 100000 Zw.p0 (Zw.d1.st 8 []) 1) = true := by kernel_rfl
noncomputable def Zw.t43 : List SE := ncL [⟨.len, (ch 1000), (.int .i64 0), (ch 1004)⟩,
  ⟨.bin .lss, (ch 1002), (ch 1004), (.bool true)⟩,
  ⟨.len, (ch 1001), (.int .i64 0), (ch 1005)⟩,
  ⟨.bin .lss, (ch 1002), (ch 1005), (.bool true)⟩,
  ⟨.bin .lss, (ch 1002), (.int .i64 30), (.bool true)⟩,
  ⟨.idx 1, (ch 1000), (ch 1002), (.pointer (some ⟨8, 0, none⟩))⟩,
  ⟨.idx 1, (ch 1001), (ch 1002), (.pointer (some ⟨9, 0, none⟩))⟩,
  ⟨.bin .add, (ch 1002), (.int .i64 1), (ch 1006)⟩]
theorem Zw.i43 : Zw.d2.sub 8 [[(ch 1003)], [(.bool true)]] (idl 8 Zw.d2.objs) (idA 3) (Zw.d2.st 8 []) = true := by kernel_rfl
theorem Zw.r43 : leafNext (fK (Tryz.Es Tryz.m4 (syOf Zw.t43)) 100000 100000 Zw.p0 (Zw.d2.st 8 [[(ch 1003)], [(.bool true)]]) 1) 8 Zw.d2 [(10, 10), (11, 11), (12, 12), (13, 13)] [(ch 1000), (ch 1001), (ch 1006)] = some Zw.p0 := by kernel_rfl
noncomputable def Zw.t45 : List SE := ncL [⟨.len, (ch 1000), (.int .i64 0), (ch 1003)⟩,
  ⟨.bin .lss, (ch 1002), (ch 1003), (.bool true)⟩,
  ⟨.len, (ch 1001), (.int .i64 0), (ch 1004)⟩,
  ⟨.bin .lss, (ch 1002), (ch 1004), (.bool true)⟩,
  ⟨.bin .lss, (ch 1002), (.int .i64 30), (.bool false)⟩]
theorem Zw.i45 : Zw.d2.sub 8 [] (idl 8 Zw.d2.objs) (idA 3) (Zw.d2.st 8 []) = true := by kernel_rfl
theorem Zw.r45 : leafFin (Tryz.Es Tryz.m4 (syOf Zw.t45)) Tryz.f4 (fK (Tryz.Es Tryz.m4 (syOf Zw.t45)) 100000 100000 Zw.p0 (Zw.d2.st 8 []) 1) = true := by kernel_rfl
noncomputable def Zw.t47 : List SE := ncL [⟨.len, (ch 1000), (.int .i64 0), (ch 1003)⟩,
  ⟨.bin .lss, (ch 1002), (ch 1003), (.bool false)⟩]
theorem Zw.i47 : Zw.d2.sub 8 [] (idl 8 Zw.d2.objs) (idA 3) (Zw.d2.st 8 []) = true := by kernel_rfl
theorem Zw.r47 : leafFin (Tryz.Es Tryz.m4 (syOf Zw.t47)) Tryz.f4 (fK (Tryz.Es Tryz.m4 (syOf Zw.t47)) 100000 100000 Zw.p0 (Zw.d2.st 8 []) 1) = true := by kernel_rfl
noncomputable def Zw.t79 : List SE := ncL [⟨.len, (ch 1000), (.int .i64 0), (ch 1004)⟩,
  ⟨.bin .lss, (ch 1002), (ch 1004), (.bool true)⟩,
  ⟨.len, (ch 1001), (.int .i64 0), (ch 1005)⟩,
  ⟨.bin .lss, (ch 1002), (ch 1005), (.bool true)⟩,
  ⟨.bin .lss, (ch 1002), (.int .i64 30), (.bool true)⟩,
  ⟨.idx 1, (ch 1000), (ch 1002), (.pointer (some ⟨8, 0, none⟩))⟩,
  ⟨.idx 1, (ch 1001), (ch 1002), (.pointer (some ⟨9, 0, none⟩))⟩,
  ⟨.bin .add, (ch 1002), (.int .i64 1), (ch 1006)⟩]
theorem Zw.i79 : Zw.d3.sub 8 [[(ch 1003)], [(.bool false)]] (idl 8 Zw.d3.objs) (idA 3) (Zw.d3.st 8 []) = true := by kernel_rfl
theorem Zw.r79 : leafNext (fK (Tryz.Es Tryz.m4 (syOf Zw.t79)) 100000 100000 Zw.p0 (Zw.d3.st 8 [[(ch 1003)], [(.bool false)]]) 1) 8 Zw.d11 [(10, 10), (11, 11), (12, 12), (13, 13), (14, 67)] [(ch 1000), (ch 1001), (ch 1003), (ch 1006)] = some Zw.p0 := by kernel_rfl
noncomputable def Zw.t81 : List SE := ncL [⟨.len, (ch 1000), (.int .i64 0), (ch 1003)⟩,
  ⟨.bin .lss, (ch 1002), (ch 1003), (.bool true)⟩,
  ⟨.len, (ch 1001), (.int .i64 0), (ch 1004)⟩,
  ⟨.bin .lss, (ch 1002), (ch 1004), (.bool false)⟩]
theorem Zw.i81 : Zw.d3.sub 8 [] (idl 8 Zw.d3.objs) (idA 3) (Zw.d3.st 8 []) = true := by kernel_rfl
theorem Zw.r81 : leafFin (Tryz.Es Tryz.m4 (syOf Zw.t81)) Tryz.f4 (fK (Tryz.Es Tryz.m4 (syOf Zw.t81)) 100000 100000 Zw.p0 (Zw.d3.st 8 []) 1) = true := by kernel_rfl
noncomputable def Zw.t98 : List SE := ncL [⟨.len, (ch 1000), (.int .i64 0), (ch 1004)⟩,
  ⟨.bin .lss, (ch 1002), (ch 1004), (.bool true)⟩,
  ⟨.len, (ch 1001), (.int .i64 0), (ch 1005)⟩,
  ⟨.bin .lss, (ch 1002), (ch 1005), (.bool true)⟩,
  ⟨.bin .lss, (ch 1002), (.int .i64 30), (.bool true)⟩,
  ⟨.idx 1, (ch 1000), (ch 1002), (.pointer (some ⟨8, 0, none⟩))⟩,
  ⟨.idx 1, (ch 1001), (ch 1002), (.pointer (some ⟨9, 0, none⟩))⟩,
  ⟨.bin .add, (ch 1002), (.int .i64 1), (ch 1006)⟩]
theorem Zw.i98 : Zw.d4.sub 8 [[(ch 1003)], [(.bool true)]] (idl 8 Zw.d4.objs) (idA 3) (Zw.d4.st 8 []) = true := by kernel_rfl
theorem Zw.r98 : leafNext (fK (Tryz.Es Tryz.m4 (syOf Zw.t98)) 100000 100000 Zw.p0 (Zw.d4.st 8 [[(ch 1003)], [(.bool true)]]) 1) 8 Zw.d4 [(10, 10), (11, 11), (12, 12), (13, 13)] [(ch 1000), (ch 1001), (ch 1006)] = some Zw.p0 := by kernel_rfl
noncomputable def Zw.t100 : List SE := ncL [⟨.len, (ch 1000), (.int .i64 0), (ch 1003)⟩,
  ⟨.bin .lss, (ch 1002), (ch 1003), (.bool true)⟩,
  ⟨.len, (ch 1001), (.int .i64 0), (ch 1004)⟩,
  ⟨.bin .lss, (ch 1002), (ch 1004), (.bool true)⟩,
  ⟨.bin .lss, (ch 1002), (.int .i64 30), (.bool false)⟩]
theorem Zw.i100 : Zw.d4.sub 8 [] (idl 8 Zw.d4.objs) (idA 3) (Zw.d4.st 8 []) = true := by kernel_rfl
theorem Zw.r100 : leafFin (Tryz.Es Tryz.m4 (syOf Zw.t100)) Tryz.f4 (fK (Tryz.Es Tryz.m4 (syOf Zw.t100)) 100000 100000 Zw.p0 (Zw.d4.st 8 []) 1) = true := by kernel_rfl
noncomputable def Zw.t102 : List SE := ncL [⟨.len, (ch 1000), (.int .i64 0), (ch 1003)⟩,
  ⟨.bin .lss, (ch 1002), (ch 1003), (.bool false)⟩]
theorem Zw.i102 : Zw.d4.sub 8 [] (idl 8 Zw.d4.objs) (idA 3) (Zw.d4.st 8 []) = true := by kernel_rfl
theorem Zw.r102 : leafFin (Tryz.Es Tryz.m4 (syOf Zw.t102)) Tryz.f4 (fK (Tryz.Es Tryz.m4 (syOf Zw.t102)) 100000 100000 Zw.p0 (Zw.d4.st 8 []) 1) = true := by kernel_rfl
noncomputable def Zw.t124 : List SE := ncL [⟨.len, (ch 1000), (.int .i64 0), (ch 1004)⟩,
  ⟨.bin .lss, (ch 1002), (ch 1004), (.bool true)⟩,
  ⟨.len, (ch 1001), (.int .i64 0), (ch 1005)⟩,
  ⟨.bin .lss, (ch 1002), (ch 1005), (.bool true)⟩,
  ⟨.bin .lss, (ch 1002), (.int .i64 30), (.bool true)⟩,
  ⟨.idx 1, (ch 1000), (ch 1002), (.pointer (some ⟨8, 0, none⟩))⟩,
  ⟨.idx 1, (ch 1001), (ch 1002), (.pointer (some ⟨9, 0, none⟩))⟩,
  ⟨.bin .add, (ch 1002), (.int .i64 1), (ch 1006)⟩]
theorem Zw.i124 : Zw.d5.sub 8 [[(ch 1003)], [(.bool false)]] (idl 8 Zw.d5.objs) (idA 3) (Zw.d5.st 8 []) = true := by kernel_rfl
theorem Zw.r124 : leafNext (fK (Tryz.Es Tryz.m4 (syOf Zw.t124)) 100000 100000 Zw.p0 (Zw.d5.st 8 [[(ch 1003)], [(.bool false)]]) 1) 8 Zw.d13 [(10, 10), (11, 11), (12, 12), (13, 13), (14, 67)] [(ch 1000), (ch 1001), (ch 1003), (ch 1006)] = some Zw.p0 := by kernel_rfl
noncomputable def Zw.t126 : List SE := ncL [⟨.len, (ch 1000), (.int .i64 0), (ch 1003)⟩,
  ⟨.bin .lss, (ch 1002), (ch 1003), (.bool true)⟩,
  ⟨.len, (ch 1001), (.int .i64 0), (ch 1004)⟩,
  ⟨.bin .lss, (ch 1002), (ch 1004), (.bool false)⟩]
theorem Zw.i126 : Zw.d5.sub 8 [] (idl 8 Zw.d5.objs) (idA 3) (Zw.d5.st 8 []) = true := by kernel_rfl
theorem Zw.r126 : leafFin (Tryz.Es Tryz.m4 (syOf Zw.t126)) Tryz.f4 (fK (Tryz.Es Tryz.m4 (syOf Zw.t126)) 100000 100000 Zw.p0 (Zw.d5.st 8 []) 1) = true := by kernel_rfl
noncomputable def Zw.t148 : List SE := ncL [⟨.len, (ch 1000), (.int .i64 0), (ch 1004)⟩,
  ⟨.bin .lss, (ch 1002), (ch 1004), (.bool true)⟩,
  ⟨.len, (ch 1001), (.int .i64 0), (ch 1005)⟩,
  ⟨.bin .lss, (ch 1002), (ch 1005), (.bool true)⟩,
  ⟨.bin .lss, (ch 1002), (.int .i64 30), (.bool true)⟩,
  ⟨.idx 1, (ch 1000), (ch 1002), (.pointer (some ⟨8, 0, none⟩))⟩,
  ⟨.idx 1, (ch 1001), (ch 1002), (.pointer (some ⟨9, 0, none⟩))⟩,
  ⟨.bin .add, (ch 1002), (.int .i64 1), (ch 1006)⟩]
theorem Zw.i148 : Zw.d6.sub 8 [[(ch 1003)], [(.bool true)]] (idl 8 Zw.d6.objs) (idA 3) (Zw.d6.st 8 []) = true := by kernel_rfl
theorem Zw.r148 : leafNext (fK (Tryz.Es Tryz.m4 (syOf Zw.t148)) 100000 100000 Zw.p0 (Zw.d6.st 8 [[(ch 1003)], [(.bool true)]]) 1) 8 Zw.d6 [(10, 10), (11, 11), (12, 12), (13, 13)] [(ch 1000), (ch 1001), (ch 1006)] = some Zw.p0 := by kernel_rfl
noncomputable def Zw.t150 : List SE := ncL [⟨.len, (ch 1000), (.int .i64 0), (ch 1003)⟩,
  ⟨.bin .lss, (ch 1002), (ch 1003), (.bool true)⟩,
  ⟨.len, (ch 1001), (.int .i64 0), (ch 1004)⟩,
  ⟨.bin .lss, (ch 1002), (ch 1004), (.bool true)⟩,
  ⟨.bin .lss, (ch 1002), (.int .i64 30), (.bool false)⟩]
theorem Zw.i150 : Zw.d6.sub 8 [] (idl 8 Zw.d6.objs) (idA 3) (Zw.d6.st 8 []) = true := by kernel_rfl
theorem Zw.r150 : leafFin (Tryz.Es Tryz.m4 (syOf Zw.t150)) Tryz.f4 (fK (Tryz.Es Tryz.m4 (syOf Zw.t150)) 100000 100000 Zw.p0 (Zw.d6.st 8 []) 1) = true := by kernel_rfl
noncomputable def Zw.t152 : List SE := ncL [⟨.len, (ch 1000), (.int .i64 0), (ch 1003)⟩,
  ⟨.bin .lss, (ch 1002), (ch 1003), (.bool false)⟩]
theorem Zw.i152 : Zw.d6.sub 8 [] (idl 8 Zw.d6.objs) (idA 3) (Zw.d6.st 8 []) = true := by kernel_rfl
theorem Zw.r152 : leafFin (Tryz.Es Tryz.m4 (syOf Zw.t152)) Tryz.f4 (fK (Tryz.Es Tryz.m4 (syOf Zw.t152)) 100000 100000 Zw.p0 (Zw.d6.st 8 []) 1) = true := by kernel_rfl
noncomputable def Zw.t169 : List SE := ncL [⟨.len, (ch 1000), (.int .i64 0), (ch 1004)⟩,
  ⟨.bin .lss, (ch 1002), (ch 1004), (.bool true)⟩,
  ⟨.len, (ch 1001), (.int .i64 0), (ch 1005)⟩,
  ⟨.bin .lss, (ch 1002), (ch 1005), (.bool true)⟩,
  ⟨.bin .lss, (ch 1002), (.int .i64 30), (.bool true)⟩,
  ⟨.idx 1, (ch 1000), (ch 1002), (.pointer (some ⟨8, 0, none⟩))⟩,
  ⟨.idx 1, (ch 1001), (ch 1002), (.pointer (some ⟨9, 0, none⟩))⟩,
  ⟨.bin .add, (ch 1002), (.int .i64 1), (ch 1006)⟩]
theorem Zw.i169 : Zw.d7.sub 8 [[(ch 1003)], [(.bool false)]] (idl 8 Zw.d7.objs) (idA 3) (Zw.d7.st 8 []) = true := by kernel_rfl
theorem Zw.r169 : leafNext (fK (Tryz.Es Tryz.m4 (syOf Zw.t169)) 100000 100000 Zw.p0 (Zw.d7.st 8 [[(ch 1003)], [(.bool false)]]) 1) 8 Zw.d15 [(10, 10), (11, 11), (12, 12), (13, 13), (14, 67)] [(ch 1000), (ch 1001), (ch 1003), (ch 1006)] = some Zw.p0 := by kernel_rfl
noncomputable def Zw.t171 : List SE := ncL [⟨.len, (ch 1000), (.int .i64 0), (ch 1003)⟩,
  ⟨.bin .lss, (ch 1002), (ch 1003), (.bool true)⟩,
  ⟨.len, (ch 1001), (.int .i64 0), (ch 1004)⟩,
  ⟨.bin .lss, (ch 1002), (ch 1004), (.bool false)⟩]
theorem Zw.i171 : Zw.d7.sub 8 [] (idl 8 Zw.d7.objs) (idA 3) (Zw.d7.st 8 []) = true := by kernel_rfl
theorem Zw.r171 : leafFin (Tryz.Es Tryz.m4 (syOf Zw.t171)) Tryz.f4 (fK (Tryz.Es Tryz.m4 (syOf Zw.t171)) 100000 100000 Zw.p0 (Zw.d7.st 8 []) 1) = true := by kernel_rfl
noncomputable def Zw.t193 : List SE := ncL [⟨.len, (ch 1000), (.int .i64 0), (ch 1004)⟩,
  ⟨.bin .lss, (ch 1002), (ch 1004), (.bool true)⟩,
  ⟨.len, (ch 1001), (.int .i64 0), (ch 1005)⟩,
  ⟨.bin .lss, (ch 1002), (ch 1005), (.bool true)⟩,
  ⟨.bin .lss, (ch 1002), (.int .i64 30), (.bool true)⟩,
  ⟨.idx 1, (ch 1000), (ch 1002), (.pointer (some ⟨8, 0, none⟩))⟩,
  ⟨.idx 1, (ch 1001), (ch 1002), (.pointer (some ⟨9, 0, none⟩))⟩,
  ⟨.bin .add, (ch 1002), (.int .i64 1), (ch 1006)⟩]
theorem Zw.i193 : Zw.d8.sub 8 [[(ch 1003)], [(.bool true)]] (idl 8 Zw.d8.objs) (idA 3) (Zw.d8.st 8 []) = true := by kernel_rfl
theorem Zw.r193 : leafNext (fK (Tryz.Es Tryz.m4 (syOf Zw.t193)) 100000 100000 Zw.p0 (Zw.d8.st 8 [[(ch 1003)], [(.bool true)]]) 1) 8 Zw.d8 [(10, 10), (11, 11), (12, 12), (13, 13)] [(ch 1000), (ch 1001), (ch 1006)] = some Zw.p0 := by kernel_rfl
noncomputable def Zw.t195 : List SE := ncL [⟨.len, (ch 1000), (.int .i64 0), (ch 1003)⟩,
  ⟨.bin .lss, (ch 1002), (ch 1003), (.bool true)⟩,
  ⟨.len, (ch 1001), (.int .i64 0), (ch 1004)⟩,
  ⟨.bin .lss, (ch 1002), (ch 1004), (.bool true)⟩,
  ⟨.bin .lss, (ch 1002), (.int .i64 30), (.bool false)⟩]
theorem Zw.i195 : Zw.d8.sub 8 [] (idl 8 Zw.d8.objs) (idA 3) (Zw.d8.st 8 []) = true := by kernel_rfl
theorem Zw.r195 : leafFin (Tryz.Es Tryz.m4 (syOf Zw.t195)) Tryz.f4 (fK (Tryz.Es Tryz.m4 (syOf Zw.t195)) 100000 100000 Zw.p0 (Zw.d8.st 8 []) 1) = true := by kernel_rfl
noncomputable def Zw.t197 : List SE := ncL [⟨.len, (ch 1000), (.int .i64 0), (ch 1003)⟩,
  ⟨.bin .lss, (ch 1002), (ch 1003), (.bool false)⟩]
theorem Zw.i197 : Zw.d8.sub 8 [] (idl 8 Zw.d8.objs) (idA 3) (Zw.d8.st 8 []) = true := by kernel_rfl
theorem Zw.r197 : leafFin (Tryz.Es Tryz.m4 (syOf Zw.t197)) Tryz.f4 (fK (Tryz.Es Tryz.m4 (syOf Zw.t197)) 100000 100000 Zw.p0 (Zw.d8.st 8 []) 1) = true := by kernel_rfl
noncomputable def Zw.t204 : List SE := ncL [⟨.len, (ch 1000), (.int .i64 0), (ch 1005)⟩,
  ⟨.bin .lss, (ch 1003), (ch 1005), (.bool true)⟩,
  ⟨.len, (ch 1001), (.int .i64 0), (ch 1006)⟩,
  ⟨.bin .lss, (ch 1003), (ch 1006), (.bool true)⟩,
  ⟨.bin .lss, (ch 1003), (.int .i64 30), (.bool true)⟩,
  ⟨.idx 1, (ch 1000), (ch 1003), (.pointer (some ⟨8, 0, none⟩))⟩,
  ⟨.idx 1, (ch 1001), (ch 1003), (.pointer (some ⟨9, 0, none⟩))⟩,
  ⟨.bin .neq, (ch 1002), (ch 1002), (.bool false)⟩,
  ⟨.bin .add, (ch 1003), (.int .i64 1), (ch 1007)⟩]
theorem Zw.i204 : Zw.d9.sub 8 [[(ch 1004)], [(.bool false)]] (idl 8 Zw.d9.objs) (idA 4) (Zw.d9.st 8 []) = true := by kernel_rfl
theorem Zw.r204 : leafNext (fK (Tryz.Es Tryz.m4 (syOf Zw.t204)) 100000 100000 Zw.p0 (Zw.d9.st 8 [[(ch 1004)], [(.bool false)]]) 1) 8 Zw.d9 [(10, 10), (11, 11), (12, 12), (13, 13), (14, 14)] [(ch 1000), (ch 1001), (ch 1004), (ch 1007)] = some Zw.p0 := by kernel_rfl
noncomputable def Zw.t206 : List SE := ncL [⟨.len, (ch 1000), (.int .i64 0), (ch 1004)⟩,
  ⟨.bin .lss, (ch 1003), (ch 1004), (.bool true)⟩,
  ⟨.len, (ch 1001), (.int .i64 0), (ch 1005)⟩,
  ⟨.bin .lss, (ch 1003), (ch 1005), (.bool false)⟩]
theorem Zw.i206 : Zw.d9.sub 8 [] (idl 8 Zw.d9.objs) (idA 4) (Zw.d9.st 8 []) = true := by kernel_rfl
theorem Zw.r206 : leafFin (Tryz.Es Tryz.m4 (syOf Zw.t206)) Tryz.f4 (fK (Tryz.Es Tryz.m4 (syOf Zw.t206)) 100000 100000 Zw.p0 (Zw.d9.st 8 []) 1) = true := by kernel_rfl
noncomputable def Zw.t208 : List SE := ncL [⟨.len, (ch 1000), (.int .i64 0), (ch 1005)⟩,
  ⟨.bin .lss, (ch 1003), (ch 1005), (.bool true)⟩,
  ⟨.len, (ch 1001), (.int .i64 0), (ch 1006)⟩,
  ⟨.bin .lss, (ch 1003), (ch 1006), (.bool true)⟩,
  ⟨.bin .lss, (ch 1003), (.int .i64 30), (.bool true)⟩,
  ⟨.idx 1, (ch 1000), (ch 1003), (.pointer (some ⟨8, 0, none⟩))⟩,
  ⟨.idx 1, (ch 1001), (ch 1003), (.pointer (some ⟨9, 0, none⟩))⟩,
  ⟨.bin .neq, (ch 1002), (ch 1002), (.bool false)⟩,
  ⟨.bin .add, (ch 1003), (.int .i64 1), (ch 1007)⟩]
theorem Zw.i208 : Zw.d10.sub 8 [[(ch 1004)], [(.bool true)]] (idl 8 Zw.d10.objs) (idA 4) (Zw.d10.st 8 []) = true := by kernel_rfl
theorem Zw.r208 : leafNext (fK (Tryz.Es Tryz.m4 (syOf Zw.t208)) 100000 100000 Zw.p0 (Zw.d10.st 8 [[(ch 1004)], [(.bool true)]]) 1) 8 Zw.d18 [(10, 10), (11, 11), (12, 12), (13, 13), (14, 14)] [(ch 1000), (ch 1001), (ch 1007)] = some Zw.p0 := by kernel_rfl
noncomputable def Zw.t210 : List SE := ncL [⟨.len, (ch 1000), (.int .i64 0), (ch 1004)⟩,
  ⟨.bin .lss, (ch 1003), (ch 1004), (.bool true)⟩,
  ⟨.len, (ch 1001), (.int .i64 0), (ch 1005)⟩,
  ⟨.bin .lss, (ch 1003), (ch 1005), (.bool true)⟩,
  ⟨.bin .lss, (ch 1003), (.int .i64 30), (.bool false)⟩]
theorem Zw.i210 : Zw.d10.sub 8 [] (idl 8 Zw.d10.objs) (idA 4) (Zw.d10.st 8 []) = true := by kernel_rfl
theorem Zw.r210 : leafFin (Tryz.Es Tryz.m4 (syOf Zw.t210)) Tryz.f4 (fK (Tryz.Es Tryz.m4 (syOf Zw.t210)) 100000 100000 Zw.p0 (Zw.d10.st 8 []) 1) = true := by kernel_rfl
noncomputable def Zw.t212 : List SE := ncL [⟨.len, (ch 1000), (.int .i64 0), (ch 1004)⟩,
  ⟨.bin .lss, (ch 1003), (ch 1004), (.bool false)⟩]
theorem Zw.i212 : Zw.d10.sub 8 [] (idl 8 Zw.d10.objs) (idA 4) (Zw.d10.st 8 []) = true := by kernel_rfl
theorem Zw.r212 : leafFin (Tryz.Es Tryz.m4 (syOf Zw.t212)) Tryz.f4 (fK (Tryz.Es Tryz.m4 (syOf Zw.t212)) 100000 100000 Zw.p0 (Zw.d10.st 8 []) 1) = true := by kernel_rfl
noncomputable def Zw.t214 : List SE := ncL [⟨.len, (ch 1000), (.int .i64 0), (ch 1005)⟩,
  ⟨.bin .lss, (ch 1003), (ch 1005), (.bool true)⟩,
  ⟨.len, (ch 1001), (.int .i64 0), (ch 1006)⟩,
  ⟨.bin .lss, (ch 1003), (ch 1006), (.bool true)⟩,
  ⟨.bin .lss, (ch 1003), (.int .i64 30), (.bool true)⟩,
  ⟨.idx 1, (ch 1000), (ch 1003), (.pointer (some ⟨8, 0, none⟩))⟩,
  ⟨.idx 1, (ch 1001), (ch 1003), (.pointer (some ⟨9, 0, none⟩))⟩,
  ⟨.bin .neq, (ch 1002), (ch 1002), (.bool false)⟩,
  ⟨.bin .add, (ch 1003), (.int .i64 1), (ch 1007)⟩]
theorem Zw.i214 : Zw.d11.sub 8 [[(ch 1004)], [(.bool false)]] (idl 8 Zw.d11.objs) (idA 4) (Zw.d11.st 8 []) = true := by kernel_rfl
theorem Zw.r214 : leafNext (fK (Tryz.Es Tryz.m4 (syOf Zw.t214)) 100000 100000 Zw.p0 (Zw.d11.st 8 [[(ch 1004)], [(.bool false)]]) 1) 8 Zw.d11 [(10, 10), (11, 11), (12, 12), (13, 13), (14, 14)] [(ch 1000), (ch 1001), (ch 1004), (ch 1007)] = some Zw.p0 := by kernel_rfl
noncomputable def Zw.t216 : List SE := ncL [⟨.len, (ch 1000), (.int .i64 0), (ch 1004)⟩,
  ⟨.bin .lss, (ch 1003), (ch 1004), (.bool true)⟩,
  ⟨.len, (ch 1001), (.int .i64 0), (ch 1005)⟩,
  ⟨.bin .lss, (ch 1003), (ch 1005), (.bool false)⟩]
theorem Zw.i216 : Zw.d11.sub 8 [] (idl 8 Zw.d11.objs) (idA 4) (Zw.d11.st 8 []) = true := by kernel_rfl
theorem Zw.r216 : leafFin (Tryz.Es Tryz.m4 (syOf Zw.t216)) Tryz.f4 (fK (Tryz.Es Tryz.m4 (syOf Zw.t216)) 100000 100000 Zw.p0 (Zw.d11.st 8 []) 1) = true := by kernel_rfl
noncomputable def Zw.t223 : List SE := ncL [⟨.len, (ch 1000), (.int .i64 0), (ch 1005)⟩,
  ⟨.bin .lss, (ch 1003), (ch 1005), (.bool true)⟩,
  ⟨.len, (ch 1001), (.int .i64 0), (ch 1006)⟩,
  ⟨.bin .lss, (ch 1003), (ch 1006), (.bool true)⟩,
  ⟨.bin .lss, (ch 1003), (.int .i64 30), (.bool true)⟩,
  ⟨.idx 1, (ch 1000), (ch 1003), (.pointer (some ⟨8, 0, none⟩))⟩,
  ⟨.idx 1, (ch 1001), (ch 1003), (.pointer (some ⟨9, 0, none⟩))⟩,
  ⟨.bin .neq, (ch 1002), (ch 1002), (.bool false)⟩,
  ⟨.bin .add, (ch 1003), (.int .i64 1), (ch 1007)⟩]
theorem Zw.i223 : Zw.d12.sub 8 [[(ch 1004)], [(.bool true)]] (idl 8 Zw.d12.objs) (idA 4) (Zw.d12.st 8 []) = true := by kernel_rfl
theorem Zw.r223 : leafNext (fK (Tryz.Es Tryz.m4 (syOf Zw.t223)) 100000 100000 Zw.p0 (Zw.d12.st 8 [[(ch 1004)], [(.bool true)]]) 1) 8 Zw.d20 [(10, 10), (11, 11), (12, 12), (13, 13), (14, 14)] [(ch 1000), (ch 1001), (ch 1007)] = some Zw.p0 := by kernel_rfl
noncomputable def Zw.t225 : List SE := ncL [⟨.len, (ch 1000), (.int .i64 0), (ch 1004)⟩,
  ⟨.bin .lss, (ch 1003), (ch 1004), (.bool true)⟩,
  ⟨.len, (ch 1001), (.int .i64 0), (ch 1005)⟩,
  ⟨.bin .lss, (ch 1003), (ch 1005), (.bool true)⟩,
  ⟨.bin .lss, (ch 1003), (.int .i64 30), (.bool false)⟩]
theorem Zw.i225 : Zw.d12.sub 8 [] (idl 8 Zw.d12.objs) (idA 4) (Zw.d12.st 8 []) = true := by kernel_rfl
theorem Zw.r225 : leafFin (Tryz.Es Tryz.m4 (syOf Zw.t225)) Tryz.f4 (fK (Tryz.Es Tryz.m4 (syOf Zw.t225)) 100000 100000 Zw.p0 (Zw.d12.st 8 []) 1) = true := by kernel_rfl
noncomputable def Zw.t227 : List SE := ncL [⟨.len, (ch 1000), (.int .i64 0), (ch 1004)⟩,
  ⟨.bin .lss, (ch 1003), (ch 1004), (.bool false)⟩]
theorem Zw.i227 : Zw.d12.sub 8 [] (idl 8 Zw.d12.objs) (idA 4) (Zw.d12.st 8 []) = true := by kernel_rfl
theorem Zw.r227 : leafFin (Tryz.Es Tryz.m4 (syOf Zw.t227)) Tryz.f4 (fK (Tryz.Es Tryz.m4 (syOf Zw.t227)) 100000 100000 Zw.p0 (Zw.d12.st 8 []) 1) = true := by kernel_rfl
noncomputable def Zw.t234 : List SE := ncL [⟨.len, (ch 1000), (.int .i64 0), (ch 1005)⟩,
  ⟨.bin .lss, (ch 1003), (ch 1005), (.bool true)⟩,
  ⟨.len, (ch 1001), (.int .i64 0), (ch 1006)⟩,
  ⟨.bin .lss, (ch 1003), (ch 1006), (.bool true)⟩,
  ⟨.bin .lss, (ch 1003), (.int .i64 30), (.bool true)⟩,
  ⟨.idx 1, (ch 1000), (ch 1003), (.pointer (some ⟨8, 0, none⟩))⟩,
  ⟨.idx 1, (ch 1001), (ch 1003), (.pointer (some ⟨9, 0, none⟩))⟩,
  ⟨.bin .neq, (ch 1002), (ch 1002), (.bool false)⟩,
  ⟨.bin .add, (ch 1003), (.int .i64 1), (ch 1007)⟩]
theorem Zw.i234 : Zw.d13.sub 8 [[(ch 1004)], [(.bool false)]] (idl 8 Zw.d13.objs) (idA 4) (Zw.d13.st 8 []) = true := by kernel_rfl
theorem Zw.r234 : leafNext (fK (Tryz.Es Tryz.m4 (syOf Zw.t234)) 100000 100000 Zw.p0 (Zw.d13.st 8 [[(ch 1004)], [(.bool false)]]) 1) 8 Zw.d13 [(10, 10), (11, 11), (12, 12), (13, 13), (14, 14)] [(ch 1000), (ch 1001), (ch 1004), (ch 1007)] = some Zw.p0 := by kernel_rfl
noncomputable def Zw.t236 : List SE := ncL [⟨.len, (ch 1000), (.int .i64 0), (ch 1004)⟩,
  ⟨.bin .lss, (ch 1003), (ch 1004), (.bool true)⟩,
  ⟨.len, (ch 1001), (.int .i64 0), (ch 1005)⟩,
  ⟨.bin .lss, (ch 1003), (ch 1005), (.bool false)⟩]
theorem Zw.i236 : Zw.d13.sub 8 [] (idl 8 Zw.d13.objs) (idA 4) (Zw.d13.st 8 []) = true := by kernel_rfl
theorem Zw.r236 : leafFin (Tryz.Es Tryz.m4 (syOf Zw.t236)) Tryz.f4 (fK (Tryz.Es Tryz.m4 (syOf Zw.t236)) 100000 100000 Zw.p0 (Zw.d13.st 8 []) 1) = true := by kernel_rfl
noncomputable def Zw.t238 : List SE := ncL [⟨.len, (ch 1000), (.int .i64 0), (ch 1005)⟩,
  ⟨.bin .lss, (ch 1003), (ch 1005), (.bool true)⟩,
  ⟨.len, (ch 1001), (.int .i64 0), (ch 1006)⟩,
  ⟨.bin .lss, (ch 1003), (ch 1006), (.bool true)⟩,
  ⟨.bin .lss, (ch 1003), (.int .i64 30), (.bool true)⟩,
  ⟨.idx 1, (ch 1000), (ch 1003), (.pointer (some ⟨8, 0, none⟩))⟩,
  ⟨.idx 1, (ch 1001), (ch 1003), (.pointer (some ⟨9, 0, none⟩))⟩,
  ⟨.bin .neq, (ch 1002), (ch 1002), (.bool false)⟩,
  ⟨.bin .add, (ch 1003), (.int .i64 1), (ch 1007)⟩]
theorem Zw.i238 : Zw.d14.sub 8 [[(ch 1004)], [(.bool true)]] (idl 8 Zw.d14.objs) (idA 4) (Zw.d14.st 8 []) = true := by kernel_rfl
theorem Zw.r238 : leafNext (fK (Tryz.Es Tryz.m4 (syOf Zw.t238)) 100000 100000 Zw.p0 (Zw.d14.st 8 [[(ch 1004)], [(.bool true)]]) 1) 8 Zw.d22 [(10, 10), (11, 11), (12, 12), (13, 13), (14, 14)] [(ch 1000), (ch 1001), (ch 1007)] = some Zw.p0 := by kernel_rfl
noncomputable def Zw.t240 : List SE := ncL [⟨.len, (ch 1000), (.int .i64 0), (ch 1004)⟩,
  ⟨.bin .lss, (ch 1003), (ch 1004), (.bool true)⟩,
  ⟨.len, (ch 1001), (.int .i64 0), (ch 1005)⟩,
  ⟨.bin .lss, (ch 1003), (ch 1005), (.bool true)⟩,
  ⟨.bin .lss, (ch 1003), (.int .i64 30), (.bool false)⟩]
theorem Zw.i240 : Zw.d14.sub 8 [] (idl 8 Zw.d14.objs) (idA 4) (Zw.d14.st 8 []) = true := by kernel_rfl
theorem Zw.r240 : leafFin (Tryz.Es Tryz.m4 (syOf Zw.t240)) Tryz.f4 (fK (Tryz.Es Tryz.m4 (syOf Zw.t240)) 100000 100000 Zw.p0 (Zw.d14.st 8 []) 1) = true := by kernel_rfl
noncomputable def Zw.t242 : List SE := ncL [⟨.len, (ch 1000), (.int .i64 0), (ch 1004)⟩,
  ⟨.bin .lss, (ch 1003), (ch 1004), (.bool false)⟩]
theorem Zw.i242 : Zw.d14.sub 8 [] (idl 8 Zw.d14.objs) (idA 4) (Zw.d14.st 8 []) = true := by kernel_rfl
theorem Zw.r242 : leafFin (Tryz.Es Tryz.m4 (syOf Zw.t242)) Tryz.f4 (fK (Tryz.Es Tryz.m4 (syOf Zw.t242)) 100000 100000 Zw.p0 (Zw.d14.st 8 []) 1) = true := by kernel_rfl
noncomputable def Zw.t249 : List SE := ncL [⟨.len, (ch 1000), (.int .i64 0), (ch 1005)⟩,
  ⟨.bin .lss, (ch 1003), (ch 1005), (.bool true)⟩,
  ⟨.len, (ch 1001), (.int .i64 0), (ch 1006)⟩,
  ⟨.bin .lss, (ch 1003), (ch 1006), (.bool true)⟩,
  ⟨.bin .lss, (ch 1003), (.int .i64 30), (.bool true)⟩,
  ⟨.idx 1, (ch 1000), (ch 1003), (.pointer (some ⟨8, 0, none⟩))⟩,
  ⟨.idx 1, (ch 1001), (ch 1003), (.pointer (some ⟨9, 0, none⟩))⟩,
  ⟨.bin .neq, (ch 1002), (ch 1002), (.bool false)⟩,
  ⟨.bin .add, (ch 1003), (.int .i64 1), (ch 1007)⟩]
theorem Zw.i249 : Zw.d15.sub 8 [[(ch 1004)], [(.bool false)]] (idl 8 Zw.d15.objs) (idA 4) (Zw.d15.st 8 []) = true := by kernel_rfl
theorem Zw.r249 : leafNext (fK (Tryz.Es Tryz.m4 (syOf Zw.t249)) 100000 100000 Zw.p0 (Zw.d15.st 8 [[(ch 1004)], [(.bool false)]]) 1) 8 Zw.d15 [(10, 10), (11, 11), (12, 12), (13, 13), (14, 14)] [(ch 1000), (ch 1001), (ch 1004), (ch 1007)] = some Zw.p0 := by kernel_rfl
noncomputable def Zw.t251 : List SE := ncL [⟨.len, (ch 1000), (.int .i64 0), (ch 1004)⟩,
  ⟨.bin .lss, (ch 1003), (ch 1004), (.bool true)⟩,
  ⟨.len, (ch 1001), (.int .i64 0), (ch 1005)⟩,
  ⟨.bin .lss, (ch 1003), (ch 1005), (.bool false)⟩]
theorem Zw.i251 : Zw.d15.sub 8 [] (idl 8 Zw.d15.objs) (idA 4) (Zw.d15.st 8 []) = true := by kernel_rfl
theorem Zw.r251 : leafFin (Tryz.Es Tryz.m4 (syOf Zw.t251)) Tryz.f4 (fK (Tryz.Es Tryz.m4 (syOf Zw.t251)) 100000 100000 Zw.p0 (Zw.d15.st 8 []) 1) = true := by kernel_rfl
noncomputable def Zw.t253 : List SE := ncL [⟨.len, (ch 1000), (.int .i64 0), (ch 1005)⟩,
  ⟨.bin .lss, (ch 1003), (ch 1005), (.bool true)⟩,
  ⟨.len, (ch 1001), (.int .i64 0), (ch 1006)⟩,
  ⟨.bin .lss, (ch 1003), (ch 1006), (.bool true)⟩,
  ⟨.bin .lss, (ch 1003), (.int .i64 30), (.bool true)⟩,
  ⟨.idx 1, (ch 1000), (ch 1003), (.pointer (some ⟨8, 0, none⟩))⟩,
  ⟨.idx 1, (ch 1001), (ch 1003), (.pointer (some ⟨9, 0, none⟩))⟩,
  ⟨.bin .neq, (ch 1002), (ch 1002), (.bool false)⟩,
  ⟨.bin .add, (ch 1003), (.int .i64 1), (ch 1007)⟩]
theorem Zw.i253 : Zw.d16.sub 8 [[(ch 1004)], [(.bool true)]] (idl 8 Zw.d16.objs) (idA 4) (Zw.d16.st 8 []) = true := by kernel_rfl
theorem Zw.r253 : leafNext (fK (Tryz.Es Tryz.m4 (syOf Zw.t253)) 100000 100000 Zw.p0 (Zw.d16.st 8 [[(ch 1004)], [(.bool true)]]) 1) 8 Zw.d24 [(10, 10), (11, 11), (12, 12), (13, 13), (14, 14)] [(ch 1000), (ch 1001), (ch 1007)] = some Zw.p0 := by kernel_rfl
noncomputable def Zw.t255 : List SE := ncL [⟨.len, (ch 1000), (.int .i64 0), (ch 1004)⟩,
  ⟨.bin .lss, (ch 1003), (ch 1004), (.bool true)⟩,
  ⟨.len, (ch 1001), (.int .i64 0), (ch 1005)⟩,
  ⟨.bin .lss, (ch 1003), (ch 1005), (.bool true)⟩,
  ⟨.bin .lss, (ch 1003), (.int .i64 30), (.bool false)⟩]
theorem Zw.i255 : Zw.d16.sub 8 [] (idl 8 Zw.d16.objs) (idA 4) (Zw.d16.st 8 []) = true := by kernel_rfl
theorem Zw.r255 : leafFin (Tryz.Es Tryz.m4 (syOf Zw.t255)) Tryz.f4 (fK (Tryz.Es Tryz.m4 (syOf Zw.t255)) 100000 100000 Zw.p0 (Zw.d16.st 8 []) 1) = true := by kernel_rfl
noncomputable def Zw.t257 : List SE := ncL [⟨.len, (ch 1000), (.int .i64 0), (ch 1004)⟩,
  ⟨.bin .lss, (ch 1003), (ch 1004), (.bool false)⟩]
theorem Zw.i257 : Zw.d16.sub 8 [] (idl 8 Zw.d16.objs) (idA 4) (Zw.d16.st 8 []) = true := by kernel_rfl
theorem Zw.r257 : leafFin (Tryz.Es Tryz.m4 (syOf Zw.t257)) Tryz.f4 (fK (Tryz.Es Tryz.m4 (syOf Zw.t257)) 100000 100000 Zw.p0 (Zw.d16.st 8 []) 1) = true := by kernel_rfl
noncomputable def Zw.t264 : List SE := ncL [⟨.len, (ch 1000), (.int .i64 0), (ch 1004)⟩,
  ⟨.bin .lss, (ch 1002), (ch 1004), (.bool true)⟩,
  ⟨.len, (ch 1001), (.int .i64 0), (ch 1005)⟩,
  ⟨.bin .lss, (ch 1002), (ch 1005), (.bool true)⟩,
  ⟨.bin .lss, (ch 1002), (.int .i64 30), (.bool true)⟩,
  ⟨.idx 1, (ch 1000), (ch 1002), (.pointer (some ⟨8, 0, none⟩))⟩,
  ⟨.idx 1, (ch 1001), (ch 1002), (.pointer (some ⟨9, 0, none⟩))⟩,
  ⟨.bin .add, (ch 1002), (.int .i64 1), (ch 1006)⟩]
theorem Zw.i264 : Zw.d17.sub 8 [[(ch 1003)], [(.bool false)]] (idl 8 Zw.d17.objs) (idA 3) (Zw.d17.st 8 []) = true := by kernel_rfl
theorem Zw.r264 : leafNext (fK (Tryz.Es Tryz.m4 (syOf Zw.t264)) 100000 100000 Zw.p0 (Zw.d17.st 8 [[(ch 1003)], [(.bool false)]]) 1) 8 Zw.d9 [(10, 10), (11, 11), (12, 12), (13, 13), (14, 14)] [(ch 1000), (ch 1001), (ch 1003), (ch 1006)] = some Zw.p0 := by kernel_rfl
noncomputable def Zw.t266 : List SE := ncL [⟨.len, (ch 1000), (.int .i64 0), (ch 1003)⟩,
  ⟨.bin .lss, (ch 1002), (ch 1003), (.bool true)⟩,
  ⟨.len, (ch 1001), (.int .i64 0), (ch 1004)⟩,
  ⟨.bin .lss, (ch 1002), (ch 1004), (.bool false)⟩]
theorem Zw.i266 : Zw.d17.sub 8 [] (idl 8 Zw.d17.objs) (idA 3) (Zw.d17.st 8 []) = true := by kernel_rfl
theorem Zw.r266 : leafFin (Tryz.Es Tryz.m4 (syOf Zw.t266)) Tryz.f4 (fK (Tryz.Es Tryz.m4 (syOf Zw.t266)) 100000 100000 Zw.p0 (Zw.d17.st 8 []) 1) = true := by kernel_rfl
noncomputable def Zw.t268 : List SE := ncL [⟨.len, (ch 1000), (.int .i64 0), (ch 1004)⟩,
  ⟨.bin .lss, (ch 1002), (ch 1004), (.bool true)⟩,
  ⟨.len, (ch 1001), (.int .i64 0), (ch 1005)⟩,
  ⟨.bin .lss, (ch 1002), (ch 1005), (.bool true)⟩,
  ⟨.bin .lss, (ch 1002), (.int .i64 30), (.bool true)⟩,
  ⟨.idx 1, (ch 1000), (ch 1002), (.pointer (some ⟨8, 0, none⟩))⟩,
  ⟨.idx 1, (ch 1001), (ch 1002), (.pointer (some ⟨9, 0, none⟩))⟩,
  ⟨.bin .add, (ch 1002), (.int .i64 1), (ch 1006)⟩]
theorem Zw.i268 : Zw.d18.sub 8 [[(ch 1003)], [(.bool true)]] (idl 8 Zw.d18.objs) (idA 3) (Zw.d18.st 8 []) = true := by kernel_rfl
theorem Zw.r268 : leafNext (fK (Tryz.Es Tryz.m4 (syOf Zw.t268)) 100000 100000 Zw.p0 (Zw.d18.st 8 [[(ch 1003)], [(.bool true)]]) 1) 8 Zw.d18 [(10, 10), (11, 11), (12, 12), (13, 13), (14, 14)] [(ch 1000), (ch 1001), (ch 1006)] = some Zw.p0 := by kernel_rfl
noncomputable def Zw.t270 : List SE := ncL [⟨.len, (ch 1000), (.int .i64 0), (ch 1003)⟩,
  ⟨.bin .lss, (ch 1002), (ch 1003), (.bool true)⟩,
  ⟨.len, (ch 1001), (.int .i64 0), (ch 1004)⟩,
  ⟨.bin .lss, (ch 1002), (ch 1004), (.bool true)⟩,
  ⟨.bin .lss, (ch 1002), (.int .i64 30), (.bool false)⟩]
theorem Zw.i270 : Zw.d18.sub 8 [] (idl 8 Zw.d18.objs) (idA 3) (Zw.d18.st 8 []) = true := by kernel_rfl
theorem Zw.r270 : leafFin (Tryz.Es Tryz.m4 (syOf Zw.t270)) Tryz.f4 (fK (Tryz.Es Tryz.m4 (syOf Zw.t270)) 100000 100000 Zw.p0 (Zw.d18.st 8 []) 1) = true := by kernel_rfl
noncomputable def Zw.t272 : List SE := ncL [⟨.len, (ch 1000), (.int .i64 0), (ch 1003)⟩,
  ⟨.bin .lss, (ch 1002), (ch 1003), (.bool false)⟩]
theorem Zw.i272 : Zw.d18.sub 8 [] (idl 8 Zw.d18.objs) (idA 3) (Zw.d18.st 8 []) = true := by kernel_rfl
theorem Zw.r272 : leafFin (Tryz.Es Tryz.m4 (syOf Zw.t272)) Tryz.f4 (fK (Tryz.Es Tryz.m4 (syOf Zw.t272)) 100000 100000 Zw.p0 (Zw.d18.st 8 []) 1) = true := by kernel_rfl
noncomputable def Zw.t279 : List SE := ncL [⟨.len, (ch 1000), (.int .i64 0), (ch 1004)⟩,
  ⟨.bin .lss, (ch 1002), (ch 1004), (.bool true)⟩,
  ⟨.len, (ch 1001), (.int .i64 0), (ch 1005)⟩,
  ⟨.bin .lss, (ch 1002), (ch 1005), (.bool true)⟩,
  ⟨.bin .lss, (ch 1002), (.int .i64 30), (.bool true)⟩,
  ⟨.idx 1, (ch 1000), (ch 1002), (.pointer (some ⟨8, 0, none⟩))⟩,
  ⟨.idx 1, (ch 1001), (ch 1002), (.pointer (some ⟨9, 0, none⟩))⟩,
  ⟨.bin .add, (ch 1002), (.int .i64 1), (ch 1006)⟩]
theorem Zw.i279 : Zw.d19.sub 8 [[(ch 1003)], [(.bool false)]] (idl 8 Zw.d19.objs) (idA 3) (Zw.d19.st 8 []) = true := by kernel_rfl
theorem Zw.r279 : leafNext (fK (Tryz.Es Tryz.m4 (syOf Zw.t279)) 100000 100000 Zw.p0 (Zw.d19.st 8 [[(ch 1003)], [(.bool false)]]) 1) 8 Zw.d11 [(10, 10), (11, 11), (12, 12), (13, 13), (14, 14)] [(ch 1000), (ch 1001), (ch 1003), (ch 1006)] = some Zw.p0 := by kernel_rfl
noncomputable def Zw.t281 : List SE := ncL [⟨.len, (ch 1000), (.int .i64 0), (ch 1003)⟩,
  ⟨.bin .lss, (ch 1002), (ch 1003), (.bool true)⟩,
  ⟨.len, (ch 1001), (.int .i64 0), (ch 1004)⟩,
  ⟨.bin .lss, (ch 1002), (ch 1004), (.bool false)⟩]
theorem Zw.i281 : Zw.d19.sub 8 [] (idl 8 Zw.d19.objs) (idA 3) (Zw.d19.st 8 []) = true := by kernel_rfl
theorem Zw.r281 : leafFin (Tryz.Es Tryz.m4 (syOf Zw.t281)) Tryz.f4 (fK (Tryz.Es Tryz.m4 (syOf Zw.t281)) 100000 100000 Zw.p0 (Zw.d19.st 8 []) 1) = true := by kernel_rfl
noncomputable def Zw.t293 : List SE := ncL [⟨.len, (ch 1000), (.int .i64 0), (ch 1004)⟩,
  ⟨.bin .lss, (ch 1002), (ch 1004), (.bool true)⟩,
  ⟨.len, (ch 1001), (.int .i64 0), (ch 1005)⟩,
  ⟨.bin .lss, (ch 1002), (ch 1005), (.bool true)⟩,
  ⟨.bin .lss, (ch 1002), (.int .i64 30), (.bool true)⟩,
  ⟨.idx 1, (ch 1000), (ch 1002), (.pointer (some ⟨8, 0, none⟩))⟩,
  ⟨.idx 1, (ch 1001), (ch 1002), (.pointer (some ⟨9, 0, none⟩))⟩,
  ⟨.bin .add, (ch 1002), (.int .i64 1), (ch 1006)⟩]
theorem Zw.i293 : Zw.d20.sub 8 [[(ch 1003)], [(.bool true)]] (idl 8 Zw.d20.objs) (idA 3) (Zw.d20.st 8 []) = true := by kernel_rfl
theorem Zw.r293 : leafNext (fK (Tryz.Es Tryz.m4 (syOf Zw.t293)) 100000 100000 Zw.p0 (Zw.d20.st 8 [[(ch 1003)], [(.bool true)]]) 1) 8 Zw.d20 [(10, 10), (11, 11), (12, 12), (13, 13), (14, 14)] [(ch 1000), (ch 1001), (ch 1006)] = some Zw.p0 := by kernel_rfl
noncomputable def Zw.t295 : List SE := ncL [⟨.len, (ch 1000), (.int .i64 0), (ch 1003)⟩,
  ⟨.bin .lss, (ch 1002), (ch 1003), (.bool true)⟩,
  ⟨.len, (ch 1001), (.int .i64 0), (ch 1004)⟩,
  ⟨.bin .lss, (ch 1002), (ch 1004), (.bool true)⟩,
  ⟨.bin .lss, (ch 1002), (.int .i64 30), (.bool false)⟩]
theorem Zw.i295 : Zw.d20.sub 8 [] (idl 8 Zw.d20.objs) (idA 3) (Zw.d20.st 8 []) = true := by kernel_rfl
theorem Zw.r295 : leafFin (Tryz.Es Tryz.m4 (syOf Zw.t295)) Tryz.f4 (fK (Tryz.Es Tryz.m4 (syOf Zw.t295)) 100000 100000 Zw.p0 (Zw.d20.st 8 []) 1) = true := by kernel_rfl
noncomputable def Zw.t297 : List SE := ncL [⟨.len, (ch 1000), (.int .i64 0), (ch 1003)⟩,
  ⟨.bin .lss, (ch 1002), (ch 1003), (.bool false)⟩]
theorem Zw.i297 : Zw.d20.sub 8 [] (idl 8 Zw.d20.objs) (idA 3) (Zw.d20.st 8 []) = true := by kernel_rfl
theorem Zw.r297 : leafFin (Tryz.Es Tryz.m4 (syOf Zw.t297)) Tryz.f4 (fK (Tryz.Es Tryz.m4 (syOf Zw.t297)) 100000 100000 Zw.p0 (Zw.d20.st 8 []) 1) = true := by kernel_rfl
noncomputable def Zw.t309 : List SE := ncL [⟨.len, (ch 1000), (.int .i64 0), (ch 1004)⟩,
  ⟨.bin .lss, (ch 1002), (ch 1004), (.bool true)⟩,
  ⟨.len, (ch 1001), (.int .i64 0), (ch 1005)⟩,
  ⟨.bin .lss, (ch 1002), (ch 1005), (.bool true)⟩,
  ⟨.bin .lss, (ch 1002), (.int .i64 30), (.bool true)⟩,
  ⟨.idx 1, (ch 1000), (ch 1002), (.pointer (some ⟨8, 0, none⟩))⟩,
  ⟨.idx 1, (ch 1001), (ch 1002), (.pointer (some ⟨9, 0, none⟩))⟩,
  ⟨.bin .add, (ch 1002), (.int .i64 1), (ch 1006)⟩]
theorem Zw.i309 : Zw.d21.sub 8 [[(ch 1003)], [(.bool false)]] (idl 8 Zw.d21.objs) (idA 3) (Zw.d21.st 8 []) = true := by kernel_rfl
theorem Zw.r309 : leafNext (fK (Tryz.Es Tryz.m4 (syOf Zw.t309)) 100000 100000 Zw.p0 (Zw.d21.st 8 [[(ch 1003)], [(.bool false)]]) 1) 8 Zw.d13 [(10, 10), (11, 11), (12, 12), (13, 13), (14, 14)] [(ch 1000), (ch 1001), (ch 1003), (ch 1006)] = some Zw.p0 := by kernel_rfl
noncomputable def Zw.t311 : List SE := ncL [⟨.len, (ch 1000), (.int .i64 0), (ch 1003)⟩,
  ⟨.bin .lss, (ch 1002), (ch 1003), (.bool true)⟩,
  ⟨.len, (ch 1001), (.int .i64 0), (ch 1004)⟩,
  ⟨.bin .lss, (ch 1002), (ch 1004), (.bool false)⟩]
theorem Zw.i311 : Zw.d21.sub 8 [] (idl 8 Zw.d21.objs) (idA 3) (Zw.d21.st 8 []) = true := by kernel_rfl
theorem Zw.r311 : leafFin (Tryz.Es Tryz.m4 (syOf Zw.t311)) Tryz.f4 (fK (Tryz.Es Tryz.m4 (syOf Zw.t311)) 100000 100000 Zw.p0 (Zw.d21.st 8 []) 1) = true := by kernel_rfl
noncomputable def Zw.t313 : List SE := ncL [⟨.len, (ch 1000), (.int .i64 0), (ch 1004)⟩,
  ⟨.bin .lss, (ch 1002), (ch 1004), (.bool true)⟩,
  ⟨.len, (ch 1001), (.int .i64 0), (ch 1005)⟩,
  ⟨.bin .lss, (ch 1002), (ch 1005), (.bool true)⟩,
  ⟨.bin .lss, (ch 1002), (.int .i64 30), (.bool true)⟩,
  ⟨.idx 1, (ch 1000), (ch 1002), (.pointer (some ⟨8, 0, none⟩))⟩,
  ⟨.idx 1, (ch 1001), (ch 1002), (.pointer (some ⟨9, 0, none⟩))⟩,
  ⟨.bin .add, (ch 1002), (.int .i64 1), (ch 1006)⟩]
theorem Zw.i313 : Zw.d22.sub 8 [[(ch 1003)], [(.bool true)]] (idl 8 Zw.d22.objs) (idA 3) (Zw.d22.st 8 []) = true := by kernel_rfl
theorem Zw.r313 : leafNext (fK (Tryz.Es Tryz.m4 (syOf Zw.t313)) 100000 100000 Zw.p0 (Zw.d22.st 8 [[(ch 1003)], [(.bool true)]]) 1) 8 Zw.d22 [(10, 10), (11, 11), (12, 12), (13, 13), (14, 14)] [(ch 1000), (ch 1001), (ch 1006)] = some Zw.p0 := by kernel_rfl
noncomputable def Zw.t315 : List SE := ncL [⟨.len, (ch 1000), (.int .i64 0), (ch 1003)⟩,
  ⟨.bin .lss, (ch 1002), (ch 1003), (.bool true)⟩,
  ⟨.len, (ch 1001), (.int .i64 0), (ch 1004)⟩,
  ⟨.bin .lss, (ch 1002), (ch 1004), (.bool true)⟩,
  ⟨.bin .lss, (ch 1002), (.int .i64 30), (.bool false)⟩]
theorem Zw.i315 : Zw.d22.sub 8 [] (idl 8 Zw.d22.objs) (idA 3) (Zw.d22.st 8 []) = true := by kernel_rfl
theorem Zw.r315 : leafFin (Tryz.Es Tryz.m4 (syOf Zw.t315)) Tryz.f4 (fK (Tryz.Es Tryz.m4 (syOf Zw.t315)) 100000 100000 Zw.p0 (Zw.d22.st 8 []) 1) = true := by kernel_rfl
noncomputable def Zw.t317 : List SE := ncL [⟨.len, (ch 1000), (.int .i64 0), (ch 1003)⟩,
  ⟨.bin .lss, (ch 1002), (ch 1003), (.bool false)⟩]
theorem Zw.i317 : Zw.d22.sub 8 [] (idl 8 Zw.d22.objs) (idA 3) (Zw.d22.st 8 []) = true := by kernel_rfl
theorem Zw.r317 : leafFin (Tryz.Es Tryz.m4 (syOf Zw.t317)) Tryz.f4 (fK (Tryz.Es Tryz.m4 (syOf Zw.t317)) 100000 100000 Zw.p0 (Zw.d22.st 8 []) 1) = true := by kernel_rfl
noncomputable def Zw.t324 : List SE := ncL [⟨.len, (ch 1000), (.int .i64 0), (ch 1004)⟩,
  ⟨.bin .lss, (ch 1002), (ch 1004), (.bool true)⟩,
  ⟨.len, (ch 1001), (.int .i64 0), (ch 1005)⟩,
  ⟨.bin .lss, (ch 1002), (ch 1005), (.bool true)⟩,
  ⟨.bin .lss, (ch 1002), (.int .i64 30), (.bool true)⟩,
  ⟨.idx 1, (ch 1000), (ch 1002), (.pointer (some ⟨8, 0, none⟩))⟩,
  ⟨.idx 1, (ch 1001), (ch 1002), (.pointer (some ⟨9, 0, none⟩))⟩,
  ⟨.bin .add, (ch 1002), (.int .i64 1), (ch 1006)⟩]
theorem Zw.i324 : Zw.d23.sub 8 [[(ch 1003)], [(.bool false)]] (idl 8 Zw.d23.objs) (idA 3) (Zw.d23.st 8 []) = true := by kernel_rfl
theorem Zw.r324 : leafNext (fK (Tryz.Es Tryz.m4 (syOf Zw.t324)) 100000 100000 Zw.p0 (Zw.d23.st 8 [[(ch 1003)], [(.bool false)]]) 1) 8 Zw.d15 [(10, 10), (11, 11), (12, 12), (13, 13), (14, 14)] [(ch 1000), (ch 1001), (ch 1003), (ch 1006)] = some Zw.p0 := by kernel_rfl
noncomputable def Zw.t326 : List SE := ncL [⟨.len, (ch 1000), (.int .i64 0), (ch 1003)⟩,
  ⟨.bin .lss, (ch 1002), (ch 1003), (.bool true)⟩,
  ⟨.len, (ch 1001), (.int .i64 0), (ch 1004)⟩,
  ⟨.bin .lss, (ch 1002), (ch 1004), (.bool false)⟩]
theorem Zw.i326 : Zw.d23.sub 8 [] (idl 8 Zw.d23.objs) (idA 3) (Zw.d23.st 8 []) = true := by kernel_rfl
theorem Zw.r326 : leafFin (Tryz.Es Tryz.m4 (syOf Zw.t326)) Tryz.f4 (fK (Tryz.Es Tryz.m4 (syOf Zw.t326)) 100000 100000 Zw.p0 (Zw.d23.st 8 []) 1) = true := by kernel_rfl
noncomputable def Zw.t333 : List SE := ncL [⟨.len, (ch 1000), (.int .i64 0), (ch 1004)⟩,
  ⟨.bin .lss, (ch 1002), (ch 1004), (.bool true)⟩,
  ⟨.len, (ch 1001), (.int .i64 0), (ch 1005)⟩,
  ⟨.bin .lss, (ch 1002), (ch 1005), (.bool true)⟩,
  ⟨.bin .lss, (ch 1002), (.int .i64 30), (.bool true)⟩,
  ⟨.idx 1, (ch 1000), (ch 1002), (.pointer (some ⟨8, 0, none⟩))⟩,
  ⟨.idx 1, (ch 1001), (ch 1002), (.pointer (some ⟨9, 0, none⟩))⟩,
  ⟨.bin .add, (ch 1002), (.int .i64 1), (ch 1006)⟩]
theorem Zw.i333 : Zw.d24.sub 8 [[(ch 1003)], [(.bool true)]] (idl 8 Zw.d24.objs) (idA 3) (Zw.d24.st 8 []) = true := by kernel_rfl
theorem Zw.r333 : leafNext (fK (Tryz.Es Tryz.m4 (syOf Zw.t333)) 100000 100000 Zw.p0 (Zw.d24.st 8 [[(ch 1003)], [(.bool true)]]) 1) 8 Zw.d24 [(10, 10), (11, 11), (12, 12), (13, 13), (14, 14)] [(ch 1000), (ch 1001), (ch 1006)] = some Zw.p0 := by kernel_rfl
noncomputable def Zw.t335 : List SE := ncL [⟨.len, (ch 1000), (.int .i64 0), (ch 1003)⟩,
  ⟨.bin .lss, (ch 1002), (ch 1003), (.bool true)⟩,
  ⟨.len, (ch 1001), (.int .i64 0), (ch 1004)⟩,
  ⟨.bin .lss, (ch 1002), (ch 1004), (.bool true)⟩,
  ⟨.bin .lss, (ch 1002), (.int .i64 30), (.bool false)⟩]
theorem Zw.i335 : Zw.d24.sub 8 [] (idl 8 Zw.d24.objs) (idA 3) (Zw.d24.st 8 []) = true := by kernel_rfl
theorem Zw.r335 : leafFin (Tryz.Es Tryz.m4 (syOf Zw.t335)) Tryz.f4 (fK (Tryz.Es Tryz.m4 (syOf Zw.t335)) 100000 100000 Zw.p0 (Zw.d24.st 8 []) 1) = true := by kernel_rfl
noncomputable def Zw.t337 : List SE := ncL [⟨.len, (ch 1000), (.int .i64 0), (ch 1003)⟩,
  ⟨.bin .lss, (ch 1002), (ch 1003), (.bool false)⟩]
theorem Zw.i337 : Zw.d24.sub 8 [] (idl 8 Zw.d24.objs) (idA 3) (Zw.d24.st 8 []) = true := by kernel_rfl
theorem Zw.r337 : leafFin (Tryz.Es Tryz.m4 (syOf Zw.t337)) Tryz.f4 (fK (Tryz.Es Tryz.m4 (syOf Zw.t337)) 100000 100000 Zw.p0 (Zw.d24.st 8 []) 1) = true := by kernel_rfl
end
end Go.Proofs
