/- Pieces of the law's run, from node to node, answered by the executor. No conditions. -/
import Derived.Test.YtjmfbhlanjhnfaaGreatDoorVSeatTableSetNd
set_option linter.all false
namespace Go.Proofs
open Go Go.Vsx
set_option maxRecDepth 1000000
noncomputable section
noncomputable def Zw.t0 : List SE := ncL [⟨.bin .rem, (ch 1002), (.int .i64 8), (ch 1003)⟩,
  ⟨.bin .add, (ch 1003), (.int .i64 8), (ch 1004)⟩,
  ⟨.bin .rem, (ch 1004), (.int .i64 8), (.int .i64 0)⟩]
theorem Zw.i0 : Zw.d0.sub 8 [] (idl 8 Zw.d0.objs) (idA 3) (Zw.d0.st 8 []) = true := by kernel_rfl
theorem Zw.r0 : leafNext (fK (Tryz.Es Tryz.m4 (syOf Zw.t0)) 100000 100000 Zw.pS (Zw.d0.st 8 []) 0) 8 Zw.d1 [(10, 13), (11, 10), (12, 11), (13, 12)] [(ch 1000), (ch 1001), (.int .i64 0)] = some Zw.p0 := by kernel_rfl
noncomputable def Zw.t2 : List SE := ncL [⟨.bin .rem, (ch 1002), (.int .i64 8), (ch 1003)⟩,
  ⟨.bin .add, (ch 1003), (.int .i64 8), (ch 1004)⟩,
  ⟨.bin .rem, (ch 1004), (.int .i64 8), (.int .i64 2)⟩]
theorem Zw.i2 : Zw.d0.sub 8 [] (idl 8 Zw.d0.objs) (idA 3) (Zw.d0.st 8 []) = true := by kernel_rfl
theorem Zw.r2 : leafNext (fK (Tryz.Es Tryz.m4 (syOf Zw.t2)) 100000 100000 Zw.pS (Zw.d0.st 8 []) 0) 8 Zw.d3 [(10, 13), (11, 10), (12, 11), (13, 12)] [(ch 1000), (ch 1001), (.int .i64 0)] = some Zw.p0 := by kernel_rfl
noncomputable def Zw.t4 : List SE := ncL [⟨.bin .rem, (ch 1002), (.int .i64 8), (ch 1003)⟩,
  ⟨.bin .add, (ch 1003), (.int .i64 8), (ch 1004)⟩,
  ⟨.bin .rem, (ch 1004), (.int .i64 8), (.int .i64 4)⟩]
theorem Zw.i4 : Zw.d0.sub 8 [] (idl 8 Zw.d0.objs) (idA 3) (Zw.d0.st 8 []) = true := by kernel_rfl
theorem Zw.r4 : leafNext (fK (Tryz.Es Tryz.m4 (syOf Zw.t4)) 100000 100000 Zw.pS (Zw.d0.st 8 []) 0) 8 Zw.d5 [(10, 13), (11, 10), (12, 11), (13, 12)] [(ch 1000), (ch 1001), (.int .i64 0)] = some Zw.p0 := by kernel_rfl
noncomputable def Zw.t6 : List SE := ncL [⟨.bin .rem, (ch 1002), (.int .i64 8), (ch 1003)⟩,
  ⟨.bin .add, (ch 1003), (.int .i64 8), (ch 1004)⟩,
  ⟨.bin .rem, (ch 1004), (.int .i64 8), (.int .i64 6)⟩]
theorem Zw.i6 : Zw.d0.sub 8 [] (idl 8 Zw.d0.objs) (idA 3) (Zw.d0.st 8 []) = true := by kernel_rfl
theorem Zw.r6 : leafNext (fK (Tryz.Es Tryz.m4 (syOf Zw.t6)) 100000 100000 Zw.pS (Zw.d0.st 8 []) 0) 8 Zw.d7 [(10, 13), (11, 10), (12, 11), (13, 12)] [(ch 1000), (ch 1001), (.int .i64 0)] = some Zw.p0 := by kernel_rfl
noncomputable def Zw.t23 : List SE := ncL [⟨.len, (ch 1000), (.int .i64 0), (ch 1004)⟩,
  ⟨.bin .lss, (ch 1002), (ch 1004), (.bool true)⟩,
  ⟨.len, (ch 1001), (.int .i64 0), (ch 1005)⟩,
  ⟨.bin .lss, (ch 1002), (ch 1005), (.bool true)⟩,
  ⟨.bin .lss, (ch 1002), (.int .i64 30), (.bool true)⟩,
  ⟨.idx 1, (ch 1000), (ch 1002), (.pointer (some ⟨8, 0, none⟩))⟩,
  ⟨.idx 1, (ch 1001), (ch 1002), (.pointer (some ⟨9, 0, none⟩))⟩,
  ⟨.bin .add, (ch 1002), (.int .i64 1), (ch 1006)⟩]
theorem Zw.i23 : Zw.d1.sub 8 [[(ch 1003)], [(.bool true)]] (idl 8 Zw.d1.objs) (idA 3) (Zw.d1.st 8 []) = true := by kernel_rfl
theorem Zw.r23 : leafNext (fK (Tryz.Es Tryz.m4 (syOf Zw.t23)) 100000 100000 Zw.p0 (Zw.d1.st 8 [[(ch 1003)], [(.bool true)]]) 1) 8 Zw.d1 [(10, 10), (11, 11), (12, 12), (13, 13)] [(ch 1000), (ch 1001), (ch 1006)] = some Zw.p0 := by kernel_rfl
noncomputable def Zw.t25 : List SE := ncL [⟨.len, (ch 1000), (.int .i64 0), (ch 1003)⟩,
  ⟨.bin .lss, (ch 1002), (ch 1003), (.bool true)⟩,
  ⟨.len, (ch 1001), (.int .i64 0), (ch 1004)⟩,
  ⟨.bin .lss, (ch 1002), (ch 1004), (.bool true)⟩,
  ⟨.bin .lss, (ch 1002), (.int .i64 30), (.bool false)⟩]
theorem Zw.i25 : Zw.d1.sub 8 [] (idl 8 Zw.d1.objs) (idA 3) (Zw.d1.st 8 []) = true := by kernel_rfl
theorem Zw.r25 : leafFin (Tryz.Es Tryz.m4 (syOf Zw.t25)) Tryz.f4 (fK (Tryz.Es Tryz.m4 (syOf Zw.t25)) 100000 100000 Zw.p0 (Zw.d1.st 8 []) 1) = true := by kernel_rfl
noncomputable def Zw.t27 : List SE := ncL [⟨.len, (ch 1000), (.int .i64 0), (ch 1003)⟩,
  ⟨.bin .lss, (ch 1002), (ch 1003), (.bool false)⟩]
theorem Zw.i27 : Zw.d1.sub 8 [] (idl 8 Zw.d1.objs) (idA 3) (Zw.d1.st 8 []) = true := by kernel_rfl
theorem Zw.r27 : leafFin (Tryz.Es Tryz.m4 (syOf Zw.t27)) Tryz.f4 (fK (Tryz.Es Tryz.m4 (syOf Zw.t27)) 100000 100000 Zw.p0 (Zw.d1.st 8 []) 1) = true := by kernel_rfl
noncomputable def Zw.t44 : List SE := ncL [⟨.len, (ch 1000), (.int .i64 0), (ch 1004)⟩,
  ⟨.bin .lss, (ch 1002), (ch 1004), (.bool true)⟩,
  ⟨.len, (ch 1001), (.int .i64 0), (ch 1005)⟩,
  ⟨.bin .lss, (ch 1002), (ch 1005), (.bool true)⟩,
  ⟨.bin .lss, (ch 1002), (.int .i64 30), (.bool true)⟩,
  ⟨.idx 1, (ch 1000), (ch 1002), (.pointer (some ⟨8, 0, none⟩))⟩,
  ⟨.idx 1, (ch 1001), (ch 1002), (.pointer (some ⟨9, 0, none⟩))⟩,
  ⟨.bin .add, (ch 1002), (.int .i64 1), (ch 1006)⟩]
theorem Zw.i44 : Zw.d2.sub 8 [[(ch 1003)], [(.bool false)]] (idl 8 Zw.d2.objs) (idA 3) (Zw.d2.st 8 []) = true := by kernel_rfl
theorem Zw.r44 : leafNext (fK (Tryz.Es Tryz.m4 (syOf Zw.t44)) 100000 100000 Zw.p0 (Zw.d2.st 8 [[(ch 1003)], [(.bool false)]]) 1) 8 Zw.d10 [(10, 10), (11, 11), (12, 12), (13, 13), (14, 67)] [(ch 1000), (ch 1001), (ch 1003), (ch 1006)] = some Zw.p0 := by kernel_rfl
noncomputable def Zw.t46 : List SE := ncL [⟨.len, (ch 1000), (.int .i64 0), (ch 1003)⟩,
  ⟨.bin .lss, (ch 1002), (ch 1003), (.bool true)⟩,
  ⟨.len, (ch 1001), (.int .i64 0), (ch 1004)⟩,
  ⟨.bin .lss, (ch 1002), (ch 1004), (.bool false)⟩]
theorem Zw.i46 : Zw.d2.sub 8 [] (idl 8 Zw.d2.objs) (idA 3) (Zw.d2.st 8 []) = true := by kernel_rfl
theorem Zw.r46 : leafFin (Tryz.Es Tryz.m4 (syOf Zw.t46)) Tryz.f4 (fK (Tryz.Es Tryz.m4 (syOf Zw.t46)) 100000 100000 Zw.p0 (Zw.d2.st 8 []) 1) = true := by kernel_rfl
noncomputable def Zw.t78 : List SE := ncL [⟨.len, (ch 1000), (.int .i64 0), (ch 1004)⟩,
  ⟨.bin .lss, (ch 1002), (ch 1004), (.bool true)⟩,
  ⟨.len, (ch 1001), (.int .i64 0), (ch 1005)⟩,
  ⟨.bin .lss, (ch 1002), (ch 1005), (.bool true)⟩,
  ⟨.bin .lss, (ch 1002), (.int .i64 30), (.bool true)⟩,
  ⟨.idx 1, (ch 1000), (ch 1002), (.pointer (some ⟨8, 0, none⟩))⟩,
  ⟨.idx 1, (ch 1001), (ch 1002), (.pointer (some ⟨9, 0, none⟩))⟩,
  ⟨.bin .add, (ch 1002), (.int .i64 1), (ch 1006)⟩]
theorem Zw.i78 : Zw.d3.sub 8 [[(ch 1003)], [(.bool true)]] (idl 8 Zw.d3.objs) (idA 3) (Zw.d3.st 8 []) = true := by kernel_rfl
theorem Zw.r78 : leafNext (fK (Tryz.Es Tryz.m4 (syOf Zw.t78)) 100000 100000 Zw.p0 (Zw.d3.st 8 [[(ch 1003)], [(.bool true)]]) 1) 8 Zw.d3 [(10, 10), (11, 11), (12, 12), (13, 13)] [(ch 1000), (ch 1001), (ch 1006)] = some Zw.p0 := by kernel_rfl
noncomputable def Zw.t80 : List SE := ncL [⟨.len, (ch 1000), (.int .i64 0), (ch 1003)⟩,
  ⟨.bin .lss, (ch 1002), (ch 1003), (.bool true)⟩,
  ⟨.len, (ch 1001), (.int .i64 0), (ch 1004)⟩,
  ⟨.bin .lss, (ch 1002), (ch 1004), (.bool true)⟩,
  ⟨.bin .lss, (ch 1002), (.int .i64 30), (.bool false)⟩]
theorem Zw.i80 : Zw.d3.sub 8 [] (idl 8 Zw.d3.objs) (idA 3) (Zw.d3.st 8 []) = true := by kernel_rfl
theorem Zw.r80 : leafFin (Tryz.Es Tryz.m4 (syOf Zw.t80)) Tryz.f4 (fK (Tryz.Es Tryz.m4 (syOf Zw.t80)) 100000 100000 Zw.p0 (Zw.d3.st 8 []) 1) = true := by kernel_rfl
noncomputable def Zw.t82 : List SE := ncL [⟨.len, (ch 1000), (.int .i64 0), (ch 1003)⟩,
  ⟨.bin .lss, (ch 1002), (ch 1003), (.bool false)⟩]
theorem Zw.i82 : Zw.d3.sub 8 [] (idl 8 Zw.d3.objs) (idA 3) (Zw.d3.st 8 []) = true := by kernel_rfl
theorem Zw.r82 : leafFin (Tryz.Es Tryz.m4 (syOf Zw.t82)) Tryz.f4 (fK (Tryz.Es Tryz.m4 (syOf Zw.t82)) 100000 100000 Zw.p0 (Zw.d3.st 8 []) 1) = true := by kernel_rfl
noncomputable def Zw.t99 : List SE := ncL [⟨.len, (ch 1000), (.int .i64 0), (ch 1004)⟩,
  ⟨.bin .lss, (ch 1002), (ch 1004), (.bool true)⟩,
  ⟨.len, (ch 1001), (.int .i64 0), (ch 1005)⟩,
  ⟨.bin .lss, (ch 1002), (ch 1005), (.bool true)⟩,
  ⟨.bin .lss, (ch 1002), (.int .i64 30), (.bool true)⟩,
  ⟨.idx 1, (ch 1000), (ch 1002), (.pointer (some ⟨8, 0, none⟩))⟩,
  ⟨.idx 1, (ch 1001), (ch 1002), (.pointer (some ⟨9, 0, none⟩))⟩,
  ⟨.bin .add, (ch 1002), (.int .i64 1), (ch 1006)⟩]
theorem Zw.i99 : Zw.d4.sub 8 [[(ch 1003)], [(.bool false)]] (idl 8 Zw.d4.objs) (idA 3) (Zw.d4.st 8 []) = true := by kernel_rfl
theorem Zw.r99 : leafNext (fK (Tryz.Es Tryz.m4 (syOf Zw.t99)) 100000 100000 Zw.p0 (Zw.d4.st 8 [[(ch 1003)], [(.bool false)]]) 1) 8 Zw.d12 [(10, 10), (11, 11), (12, 12), (13, 13), (14, 67)] [(ch 1000), (ch 1001), (ch 1003), (ch 1006)] = some Zw.p0 := by kernel_rfl
noncomputable def Zw.t101 : List SE := ncL [⟨.len, (ch 1000), (.int .i64 0), (ch 1003)⟩,
  ⟨.bin .lss, (ch 1002), (ch 1003), (.bool true)⟩,
  ⟨.len, (ch 1001), (.int .i64 0), (ch 1004)⟩,
  ⟨.bin .lss, (ch 1002), (ch 1004), (.bool false)⟩]
theorem Zw.i101 : Zw.d4.sub 8 [] (idl 8 Zw.d4.objs) (idA 3) (Zw.d4.st 8 []) = true := by kernel_rfl
theorem Zw.r101 : leafFin (Tryz.Es Tryz.m4 (syOf Zw.t101)) Tryz.f4 (fK (Tryz.Es Tryz.m4 (syOf Zw.t101)) 100000 100000 Zw.p0 (Zw.d4.st 8 []) 1) = true := by kernel_rfl
noncomputable def Zw.t123 : List SE := ncL [⟨.len, (ch 1000), (.int .i64 0), (ch 1004)⟩,
  ⟨.bin .lss, (ch 1002), (ch 1004), (.bool true)⟩,
  ⟨.len, (ch 1001), (.int .i64 0), (ch 1005)⟩,
  ⟨.bin .lss, (ch 1002), (ch 1005), (.bool true)⟩,
  ⟨.bin .lss, (ch 1002), (.int .i64 30), (.bool true)⟩,
  ⟨.idx 1, (ch 1000), (ch 1002), (.pointer (some ⟨8, 0, none⟩))⟩,
  ⟨.idx 1, (ch 1001), (ch 1002), (.pointer (some ⟨9, 0, none⟩))⟩,
  ⟨.bin .add, (ch 1002), (.int .i64 1), (ch 1006)⟩]
theorem Zw.i123 : Zw.d5.sub 8 [[(ch 1003)], [(.bool true)]] (idl 8 Zw.d5.objs) (idA 3) (Zw.d5.st 8 []) = true := by kernel_rfl
theorem Zw.r123 : leafNext (fK (Tryz.Es Tryz.m4 (syOf Zw.t123)) 100000 100000 Zw.p0 (Zw.d5.st 8 [[(ch 1003)], [(.bool true)]]) 1) 8 Zw.d5 [(10, 10), (11, 11), (12, 12), (13, 13)] [(ch 1000), (ch 1001), (ch 1006)] = some Zw.p0 := by kernel_rfl
noncomputable def Zw.t125 : List SE := ncL [⟨.len, (ch 1000), (.int .i64 0), (ch 1003)⟩,
  ⟨.bin .lss, (ch 1002), (ch 1003), (.bool true)⟩,
  ⟨.len, (ch 1001), (.int .i64 0), (ch 1004)⟩,
  ⟨.bin .lss, (ch 1002), (ch 1004), (.bool true)⟩,
  ⟨.bin .lss, (ch 1002), (.int .i64 30), (.bool false)⟩]
theorem Zw.i125 : Zw.d5.sub 8 [] (idl 8 Zw.d5.objs) (idA 3) (Zw.d5.st 8 []) = true := by kernel_rfl
theorem Zw.r125 : leafFin (Tryz.Es Tryz.m4 (syOf Zw.t125)) Tryz.f4 (fK (Tryz.Es Tryz.m4 (syOf Zw.t125)) 100000 100000 Zw.p0 (Zw.d5.st 8 []) 1) = true := by kernel_rfl
noncomputable def Zw.t127 : List SE := ncL [⟨.len, (ch 1000), (.int .i64 0), (ch 1003)⟩,
  ⟨.bin .lss, (ch 1002), (ch 1003), (.bool false)⟩]
theorem Zw.i127 : Zw.d5.sub 8 [] (idl 8 Zw.d5.objs) (idA 3) (Zw.d5.st 8 []) = true := by kernel_rfl
theorem Zw.r127 : leafFin (Tryz.Es Tryz.m4 (syOf Zw.t127)) Tryz.f4 (fK (Tryz.Es Tryz.m4 (syOf Zw.t127)) 100000 100000 Zw.p0 (Zw.d5.st 8 []) 1) = true := by kernel_rfl
noncomputable def Zw.t149 : List SE := ncL [⟨.len, (ch 1000), (.int .i64 0), (ch 1004)⟩,
  ⟨.bin .lss, (ch 1002), (ch 1004), (.bool true)⟩,
  ⟨.len, (ch 1001), (.int .i64 0), (ch 1005)⟩,
  ⟨.bin .lss, (ch 1002), (ch 1005), (.bool true)⟩,
  ⟨.bin .lss, (ch 1002), (.int .i64 30), (.bool true)⟩,
  ⟨.idx 1, (ch 1000), (ch 1002), (.pointer (some ⟨8, 0, none⟩))⟩,
  ⟨.idx 1, (ch 1001), (ch 1002), (.pointer (some ⟨9, 0, none⟩))⟩,
  ⟨.bin .add, (ch 1002), (.int .i64 1), (ch 1006)⟩]
theorem Zw.i149 : Zw.d6.sub 8 [[(ch 1003)], [(.bool false)]] (idl 8 Zw.d6.objs) (idA 3) (Zw.d6.st 8 []) = true := by kernel_rfl
theorem Zw.r149 : leafNext (fK (Tryz.Es Tryz.m4 (syOf Zw.t149)) 100000 100000 Zw.p0 (Zw.d6.st 8 [[(ch 1003)], [(.bool false)]]) 1) 8 Zw.d14 [(10, 10), (11, 11), (12, 12), (13, 13), (14, 67)] [(ch 1000), (ch 1001), (ch 1003), (ch 1006)] = some Zw.p0 := by kernel_rfl
noncomputable def Zw.t151 : List SE := ncL [⟨.len, (ch 1000), (.int .i64 0), (ch 1003)⟩,
  ⟨.bin .lss, (ch 1002), (ch 1003), (.bool true)⟩,
  ⟨.len, (ch 1001), (.int .i64 0), (ch 1004)⟩,
  ⟨.bin .lss, (ch 1002), (ch 1004), (.bool false)⟩]
theorem Zw.i151 : Zw.d6.sub 8 [] (idl 8 Zw.d6.objs) (idA 3) (Zw.d6.st 8 []) = true := by kernel_rfl
theorem Zw.r151 : leafFin (Tryz.Es Tryz.m4 (syOf Zw.t151)) Tryz.f4 (fK (Tryz.Es Tryz.m4 (syOf Zw.t151)) 100000 100000 Zw.p0 (Zw.d6.st 8 []) 1) = true := by kernel_rfl
noncomputable def Zw.t168 : List SE := ncL [⟨.len, (ch 1000), (.int .i64 0), (ch 1004)⟩,
  ⟨.bin .lss, (ch 1002), (ch 1004), (.bool true)⟩,
  ⟨.len, (ch 1001), (.int .i64 0), (ch 1005)⟩,
  ⟨.bin .lss, (ch 1002), (ch 1005), (.bool true)⟩,
  ⟨.bin .lss, (ch 1002), (.int .i64 30), (.bool true)⟩,
  ⟨.idx 1, (ch 1000), (ch 1002), (.pointer (some ⟨8, 0, none⟩))⟩,
  ⟨.idx 1, (ch 1001), (ch 1002), (.pointer (some ⟨9, 0, none⟩))⟩,
  ⟨.bin .add, (ch 1002), (.int .i64 1), (ch 1006)⟩]
theorem Zw.i168 : Zw.d7.sub 8 [[(ch 1003)], [(.bool true)]] (idl 8 Zw.d7.objs) (idA 3) (Zw.d7.st 8 []) = true := by kernel_rfl
theorem Zw.r168 : leafNext (fK (Tryz.Es Tryz.m4 (syOf Zw.t168)) 100000 100000 Zw.p0 (Zw.d7.st 8 [[(ch 1003)], [(.bool true)]]) 1) 8 Zw.d7 [(10, 10), (11, 11), (12, 12), (13, 13)] [(ch 1000), (ch 1001), (ch 1006)] = some Zw.p0 := by kernel_rfl
noncomputable def Zw.t170 : List SE := ncL [⟨.len, (ch 1000), (.int .i64 0), (ch 1003)⟩,
  ⟨.bin .lss, (ch 1002), (ch 1003), (.bool true)⟩,
  ⟨.len, (ch 1001), (.int .i64 0), (ch 1004)⟩,
  ⟨.bin .lss, (ch 1002), (ch 1004), (.bool true)⟩,
  ⟨.bin .lss, (ch 1002), (.int .i64 30), (.bool false)⟩]
theorem Zw.i170 : Zw.d7.sub 8 [] (idl 8 Zw.d7.objs) (idA 3) (Zw.d7.st 8 []) = true := by kernel_rfl
theorem Zw.r170 : leafFin (Tryz.Es Tryz.m4 (syOf Zw.t170)) Tryz.f4 (fK (Tryz.Es Tryz.m4 (syOf Zw.t170)) 100000 100000 Zw.p0 (Zw.d7.st 8 []) 1) = true := by kernel_rfl
noncomputable def Zw.t172 : List SE := ncL [⟨.len, (ch 1000), (.int .i64 0), (ch 1003)⟩,
  ⟨.bin .lss, (ch 1002), (ch 1003), (.bool false)⟩]
theorem Zw.i172 : Zw.d7.sub 8 [] (idl 8 Zw.d7.objs) (idA 3) (Zw.d7.st 8 []) = true := by kernel_rfl
theorem Zw.r172 : leafFin (Tryz.Es Tryz.m4 (syOf Zw.t172)) Tryz.f4 (fK (Tryz.Es Tryz.m4 (syOf Zw.t172)) 100000 100000 Zw.p0 (Zw.d7.st 8 []) 1) = true := by kernel_rfl
noncomputable def Zw.t194 : List SE := ncL [⟨.len, (ch 1000), (.int .i64 0), (ch 1004)⟩,
  ⟨.bin .lss, (ch 1002), (ch 1004), (.bool true)⟩,
  ⟨.len, (ch 1001), (.int .i64 0), (ch 1005)⟩,
  ⟨.bin .lss, (ch 1002), (ch 1005), (.bool true)⟩,
  ⟨.bin .lss, (ch 1002), (.int .i64 30), (.bool true)⟩,
  ⟨.idx 1, (ch 1000), (ch 1002), (.pointer (some ⟨8, 0, none⟩))⟩,
  ⟨.idx 1, (ch 1001), (ch 1002), (.pointer (some ⟨9, 0, none⟩))⟩,
  ⟨.bin .add, (ch 1002), (.int .i64 1), (ch 1006)⟩]
theorem Zw.i194 : Zw.d8.sub 8 [[(ch 1003)], [(.bool false)]] (idl 8 Zw.d8.objs) (idA 3) (Zw.d8.st 8 []) = true := by kernel_rfl
theorem Zw.r194 : leafNext (fK (Tryz.Es Tryz.m4 (syOf Zw.t194)) 100000 100000 Zw.p0 (Zw.d8.st 8 [[(ch 1003)], [(.bool false)]]) 1) 8 Zw.d16 [(10, 10), (11, 11), (12, 12), (13, 13), (14, 67)] [(ch 1000), (ch 1001), (ch 1003), (ch 1006)] = some Zw.p0 := by kernel_rfl
noncomputable def Zw.t196 : List SE := ncL [⟨.len, (ch 1000), (.int .i64 0), (ch 1003)⟩,
  ⟨.bin .lss, (ch 1002), (ch 1003), (.bool true)⟩,
  ⟨.len, (ch 1001), (.int .i64 0), (ch 1004)⟩,
  ⟨.bin .lss, (ch 1002), (ch 1004), (.bool false)⟩]
theorem Zw.i196 : Zw.d8.sub 8 [] (idl 8 Zw.d8.objs) (idA 3) (Zw.d8.st 8 []) = true := by kernel_rfl
theorem Zw.r196 : leafFin (Tryz.Es Tryz.m4 (syOf Zw.t196)) Tryz.f4 (fK (Tryz.Es Tryz.m4 (syOf Zw.t196)) 100000 100000 Zw.p0 (Zw.d8.st 8 []) 1) = true := by kernel_rfl
noncomputable def Zw.t203 : List SE := ncL [⟨.len, (ch 1000), (.int .i64 0), (ch 1005)⟩,
  ⟨.bin .lss, (ch 1003), (ch 1005), (.bool true)⟩,
  ⟨.len, (ch 1001), (.int .i64 0), (ch 1006)⟩,
  ⟨.bin .lss, (ch 1003), (ch 1006), (.bool true)⟩,
  ⟨.bin .lss, (ch 1003), (.int .i64 30), (.bool true)⟩,
  ⟨.idx 1, (ch 1000), (ch 1003), (.pointer (some ⟨8, 0, none⟩))⟩,
  ⟨.idx 1, (ch 1001), (ch 1003), (.pointer (some ⟨9, 0, none⟩))⟩,
  ⟨.bin .neq, (ch 1002), (ch 1002), (.bool false)⟩,
  ⟨.bin .add, (ch 1003), (.int .i64 1), (ch 1007)⟩]
theorem Zw.i203 : Zw.d9.sub 8 [[(ch 1004)], [(.bool true)]] (idl 8 Zw.d9.objs) (idA 4) (Zw.d9.st 8 []) = true := by kernel_rfl
theorem Zw.r203 : leafNext (fK (Tryz.Es Tryz.m4 (syOf Zw.t203)) 100000 100000 Zw.p0 (Zw.d9.st 8 [[(ch 1004)], [(.bool true)]]) 1) 8 Zw.d17 [(10, 10), (11, 11), (12, 12), (13, 13), (14, 14)] [(ch 1000), (ch 1001), (ch 1007)] = some Zw.p0 := by kernel_rfl
noncomputable def Zw.t205 : List SE := ncL [⟨.len, (ch 1000), (.int .i64 0), (ch 1004)⟩,
  ⟨.bin .lss, (ch 1003), (ch 1004), (.bool true)⟩,
  ⟨.len, (ch 1001), (.int .i64 0), (ch 1005)⟩,
  ⟨.bin .lss, (ch 1003), (ch 1005), (.bool true)⟩,
  ⟨.bin .lss, (ch 1003), (.int .i64 30), (.bool false)⟩]
theorem Zw.i205 : Zw.d9.sub 8 [] (idl 8 Zw.d9.objs) (idA 4) (Zw.d9.st 8 []) = true := by kernel_rfl
theorem Zw.r205 : leafFin (Tryz.Es Tryz.m4 (syOf Zw.t205)) Tryz.f4 (fK (Tryz.Es Tryz.m4 (syOf Zw.t205)) 100000 100000 Zw.p0 (Zw.d9.st 8 []) 1) = true := by kernel_rfl
noncomputable def Zw.t207 : List SE := ncL [⟨.len, (ch 1000), (.int .i64 0), (ch 1004)⟩,
  ⟨.bin .lss, (ch 1003), (ch 1004), (.bool false)⟩]
theorem Zw.i207 : Zw.d9.sub 8 [] (idl 8 Zw.d9.objs) (idA 4) (Zw.d9.st 8 []) = true := by kernel_rfl
theorem Zw.r207 : leafFin (Tryz.Es Tryz.m4 (syOf Zw.t207)) Tryz.f4 (fK (Tryz.Es Tryz.m4 (syOf Zw.t207)) 100000 100000 Zw.p0 (Zw.d9.st 8 []) 1) = true := by kernel_rfl
noncomputable def Zw.t209 : List SE := ncL [⟨.len, (ch 1000), (.int .i64 0), (ch 1005)⟩,
  ⟨.bin .lss, (ch 1003), (ch 1005), (.bool true)⟩,
  ⟨.len, (ch 1001), (.int .i64 0), (ch 1006)⟩,
  ⟨.bin .lss, (ch 1003), (ch 1006), (.bool true)⟩,
  ⟨.bin .lss, (ch 1003), (.int .i64 30), (.bool true)⟩,
  ⟨.idx 1, (ch 1000), (ch 1003), (.pointer (some ⟨8, 0, none⟩))⟩,
  ⟨.idx 1, (ch 1001), (ch 1003), (.pointer (some ⟨9, 0, none⟩))⟩,
  ⟨.bin .neq, (ch 1002), (ch 1002), (.bool false)⟩,
  ⟨.bin .add, (ch 1003), (.int .i64 1), (ch 1007)⟩]
theorem Zw.i209 : Zw.d10.sub 8 [[(ch 1004)], [(.bool false)]] (idl 8 Zw.d10.objs) (idA 4) (Zw.d10.st 8 []) = true := by kernel_rfl
theorem Zw.r209 : leafNext (fK (Tryz.Es Tryz.m4 (syOf Zw.t209)) 100000 100000 Zw.p0 (Zw.d10.st 8 [[(ch 1004)], [(.bool false)]]) 1) 8 Zw.d10 [(10, 10), (11, 11), (12, 12), (13, 13), (14, 14)] [(ch 1000), (ch 1001), (ch 1004), (ch 1007)] = some Zw.p0 := by kernel_rfl
noncomputable def Zw.t211 : List SE := ncL [⟨.len, (ch 1000), (.int .i64 0), (ch 1004)⟩,
  ⟨.bin .lss, (ch 1003), (ch 1004), (.bool true)⟩,
  ⟨.len, (ch 1001), (.int .i64 0), (ch 1005)⟩,
  ⟨.bin .lss, (ch 1003), (ch 1005), (.bool false)⟩]
theorem Zw.i211 : Zw.d10.sub 8 [] (idl 8 Zw.d10.objs) (idA 4) (Zw.d10.st 8 []) = true := by kernel_rfl
theorem Zw.r211 : leafFin (Tryz.Es Tryz.m4 (syOf Zw.t211)) Tryz.f4 (fK (Tryz.Es Tryz.m4 (syOf Zw.t211)) 100000 100000 Zw.p0 (Zw.d10.st 8 []) 1) = true := by kernel_rfl
noncomputable def Zw.t213 : List SE := ncL [⟨.len, (ch 1000), (.int .i64 0), (ch 1005)⟩,
  ⟨.bin .lss, (ch 1003), (ch 1005), (.bool true)⟩,
  ⟨.len, (ch 1001), (.int .i64 0), (ch 1006)⟩,
  ⟨.bin .lss, (ch 1003), (ch 1006), (.bool true)⟩,
  ⟨.bin .lss, (ch 1003), (.int .i64 30), (.bool true)⟩,
  ⟨.idx 1, (ch 1000), (ch 1003), (.pointer (some ⟨8, 0, none⟩))⟩,
  ⟨.idx 1, (ch 1001), (ch 1003), (.pointer (some ⟨9, 0, none⟩))⟩,
  ⟨.bin .neq, (ch 1002), (ch 1002), (.bool false)⟩,
  ⟨.bin .add, (ch 1003), (.int .i64 1), (ch 1007)⟩]
theorem Zw.i213 : Zw.d11.sub 8 [[(ch 1004)], [(.bool true)]] (idl 8 Zw.d11.objs) (idA 4) (Zw.d11.st 8 []) = true := by kernel_rfl
theorem Zw.r213 : leafNext (fK (Tryz.Es Tryz.m4 (syOf Zw.t213)) 100000 100000 Zw.p0 (Zw.d11.st 8 [[(ch 1004)], [(.bool true)]]) 1) 8 Zw.d19 [(10, 10), (11, 11), (12, 12), (13, 13), (14, 14)] [(ch 1000), (ch 1001), (ch 1007)] = some Zw.p0 := by kernel_rfl
noncomputable def Zw.t215 : List SE := ncL [⟨.len, (ch 1000), (.int .i64 0), (ch 1004)⟩,
  ⟨.bin .lss, (ch 1003), (ch 1004), (.bool true)⟩,
  ⟨.len, (ch 1001), (.int .i64 0), (ch 1005)⟩,
  ⟨.bin .lss, (ch 1003), (ch 1005), (.bool true)⟩,
  ⟨.bin .lss, (ch 1003), (.int .i64 30), (.bool false)⟩]
theorem Zw.i215 : Zw.d11.sub 8 [] (idl 8 Zw.d11.objs) (idA 4) (Zw.d11.st 8 []) = true := by kernel_rfl
theorem Zw.r215 : leafFin (Tryz.Es Tryz.m4 (syOf Zw.t215)) Tryz.f4 (fK (Tryz.Es Tryz.m4 (syOf Zw.t215)) 100000 100000 Zw.p0 (Zw.d11.st 8 []) 1) = true := by kernel_rfl
noncomputable def Zw.t217 : List SE := ncL [⟨.len, (ch 1000), (.int .i64 0), (ch 1004)⟩,
  ⟨.bin .lss, (ch 1003), (ch 1004), (.bool false)⟩]
theorem Zw.i217 : Zw.d11.sub 8 [] (idl 8 Zw.d11.objs) (idA 4) (Zw.d11.st 8 []) = true := by kernel_rfl
theorem Zw.r217 : leafFin (Tryz.Es Tryz.m4 (syOf Zw.t217)) Tryz.f4 (fK (Tryz.Es Tryz.m4 (syOf Zw.t217)) 100000 100000 Zw.p0 (Zw.d11.st 8 []) 1) = true := by kernel_rfl
noncomputable def Zw.t224 : List SE := ncL [⟨.len, (ch 1000), (.int .i64 0), (ch 1005)⟩,
  ⟨.bin .lss, (ch 1003), (ch 1005), (.bool true)⟩,
  ⟨.len, (ch 1001), (.int .i64 0), (ch 1006)⟩,
  ⟨.bin .lss, (ch 1003), (ch 1006), (.bool true)⟩,
  ⟨.bin .lss, (ch 1003), (.int .i64 30), (.bool true)⟩,
  ⟨.idx 1, (ch 1000), (ch 1003), (.pointer (some ⟨8, 0, none⟩))⟩,
  ⟨.idx 1, (ch 1001), (ch 1003), (.pointer (some ⟨9, 0, none⟩))⟩,
  ⟨.bin .neq, (ch 1002), (ch 1002), (.bool false)⟩,
  ⟨.bin .add, (ch 1003), (.int .i64 1), (ch 1007)⟩]
theorem Zw.i224 : Zw.d12.sub 8 [[(ch 1004)], [(.bool false)]] (idl 8 Zw.d12.objs) (idA 4) (Zw.d12.st 8 []) = true := by kernel_rfl
theorem Zw.r224 : leafNext (fK (Tryz.Es Tryz.m4 (syOf Zw.t224)) 100000 100000 Zw.p0 (Zw.d12.st 8 [[(ch 1004)], [(.bool false)]]) 1) 8 Zw.d12 [(10, 10), (11, 11), (12, 12), (13, 13), (14, 14)] [(ch 1000), (ch 1001), (ch 1004), (ch 1007)] = some Zw.p0 := by kernel_rfl
noncomputable def Zw.t226 : List SE := ncL [⟨.len, (ch 1000), (.int .i64 0), (ch 1004)⟩,
  ⟨.bin .lss, (ch 1003), (ch 1004), (.bool true)⟩,
  ⟨.len, (ch 1001), (.int .i64 0), (ch 1005)⟩,
  ⟨.bin .lss, (ch 1003), (ch 1005), (.bool false)⟩]
theorem Zw.i226 : Zw.d12.sub 8 [] (idl 8 Zw.d12.objs) (idA 4) (Zw.d12.st 8 []) = true := by kernel_rfl
theorem Zw.r226 : leafFin (Tryz.Es Tryz.m4 (syOf Zw.t226)) Tryz.f4 (fK (Tryz.Es Tryz.m4 (syOf Zw.t226)) 100000 100000 Zw.p0 (Zw.d12.st 8 []) 1) = true := by kernel_rfl
noncomputable def Zw.t233 : List SE := ncL [⟨.len, (ch 1000), (.int .i64 0), (ch 1005)⟩,
  ⟨.bin .lss, (ch 1003), (ch 1005), (.bool true)⟩,
  ⟨.len, (ch 1001), (.int .i64 0), (ch 1006)⟩,
  ⟨.bin .lss, (ch 1003), (ch 1006), (.bool true)⟩,
  ⟨.bin .lss, (ch 1003), (.int .i64 30), (.bool true)⟩,
  ⟨.idx 1, (ch 1000), (ch 1003), (.pointer (some ⟨8, 0, none⟩))⟩,
  ⟨.idx 1, (ch 1001), (ch 1003), (.pointer (some ⟨9, 0, none⟩))⟩,
  ⟨.bin .neq, (ch 1002), (ch 1002), (.bool false)⟩,
  ⟨.bin .add, (ch 1003), (.int .i64 1), (ch 1007)⟩]
theorem Zw.i233 : Zw.d13.sub 8 [[(ch 1004)], [(.bool true)]] (idl 8 Zw.d13.objs) (idA 4) (Zw.d13.st 8 []) = true := by kernel_rfl
theorem Zw.r233 : leafNext (fK (Tryz.Es Tryz.m4 (syOf Zw.t233)) 100000 100000 Zw.p0 (Zw.d13.st 8 [[(ch 1004)], [(.bool true)]]) 1) 8 Zw.d21 [(10, 10), (11, 11), (12, 12), (13, 13), (14, 14)] [(ch 1000), (ch 1001), (ch 1007)] = some Zw.p0 := by kernel_rfl
noncomputable def Zw.t235 : List SE := ncL [⟨.len, (ch 1000), (.int .i64 0), (ch 1004)⟩,
  ⟨.bin .lss, (ch 1003), (ch 1004), (.bool true)⟩,
  ⟨.len, (ch 1001), (.int .i64 0), (ch 1005)⟩,
  ⟨.bin .lss, (ch 1003), (ch 1005), (.bool true)⟩,
  ⟨.bin .lss, (ch 1003), (.int .i64 30), (.bool false)⟩]
theorem Zw.i235 : Zw.d13.sub 8 [] (idl 8 Zw.d13.objs) (idA 4) (Zw.d13.st 8 []) = true := by kernel_rfl
theorem Zw.r235 : leafFin (Tryz.Es Tryz.m4 (syOf Zw.t235)) Tryz.f4 (fK (Tryz.Es Tryz.m4 (syOf Zw.t235)) 100000 100000 Zw.p0 (Zw.d13.st 8 []) 1) = true := by kernel_rfl
noncomputable def Zw.t237 : List SE := ncL [⟨.len, (ch 1000), (.int .i64 0), (ch 1004)⟩,
  ⟨.bin .lss, (ch 1003), (ch 1004), (.bool false)⟩]
theorem Zw.i237 : Zw.d13.sub 8 [] (idl 8 Zw.d13.objs) (idA 4) (Zw.d13.st 8 []) = true := by kernel_rfl
theorem Zw.r237 : leafFin (Tryz.Es Tryz.m4 (syOf Zw.t237)) Tryz.f4 (fK (Tryz.Es Tryz.m4 (syOf Zw.t237)) 100000 100000 Zw.p0 (Zw.d13.st 8 []) 1) = true := by kernel_rfl
noncomputable def Zw.t239 : List SE := ncL [⟨.len, (ch 1000), (.int .i64 0), (ch 1005)⟩,
  ⟨.bin .lss, (ch 1003), (ch 1005), (.bool true)⟩,
  ⟨.len, (ch 1001), (.int .i64 0), (ch 1006)⟩,
  ⟨.bin .lss, (ch 1003), (ch 1006), (.bool true)⟩,
  ⟨.bin .lss, (ch 1003), (.int .i64 30), (.bool true)⟩,
  ⟨.idx 1, (ch 1000), (ch 1003), (.pointer (some ⟨8, 0, none⟩))⟩,
  ⟨.idx 1, (ch 1001), (ch 1003), (.pointer (some ⟨9, 0, none⟩))⟩,
  ⟨.bin .neq, (ch 1002), (ch 1002), (.bool false)⟩,
  ⟨.bin .add, (ch 1003), (.int .i64 1), (ch 1007)⟩]
theorem Zw.i239 : Zw.d14.sub 8 [[(ch 1004)], [(.bool false)]] (idl 8 Zw.d14.objs) (idA 4) (Zw.d14.st 8 []) = true := by kernel_rfl
theorem Zw.r239 : leafNext (fK (Tryz.Es Tryz.m4 (syOf Zw.t239)) 100000 100000 Zw.p0 (Zw.d14.st 8 [[(ch 1004)], [(.bool false)]]) 1) 8 Zw.d14 [(10, 10), (11, 11), (12, 12), (13, 13), (14, 14)] [(ch 1000), (ch 1001), (ch 1004), (ch 1007)] = some Zw.p0 := by kernel_rfl
noncomputable def Zw.t241 : List SE := ncL [⟨.len, (ch 1000), (.int .i64 0), (ch 1004)⟩,
  ⟨.bin .lss, (ch 1003), (ch 1004), (.bool true)⟩,
  ⟨.len, (ch 1001), (.int .i64 0), (ch 1005)⟩,
  ⟨.bin .lss, (ch 1003), (ch 1005), (.bool false)⟩]
theorem Zw.i241 : Zw.d14.sub 8 [] (idl 8 Zw.d14.objs) (idA 4) (Zw.d14.st 8 []) = true := by kernel_rfl
theorem Zw.r241 : leafFin (Tryz.Es Tryz.m4 (syOf Zw.t241)) Tryz.f4 (fK (Tryz.Es Tryz.m4 (syOf Zw.t241)) 100000 100000 Zw.p0 (Zw.d14.st 8 []) 1) = true := by kernel_rfl
noncomputable def Zw.t248 : List SE := ncL [⟨.len, (ch 1000), (.int .i64 0), (ch 1005)⟩,
  ⟨.bin .lss, (ch 1003), (ch 1005), (.bool true)⟩,
  ⟨.len, (ch 1001), (.int .i64 0), (ch 1006)⟩,
  ⟨.bin .lss, (ch 1003), (ch 1006), (.bool true)⟩,
  ⟨.bin .lss, (ch 1003), (.int .i64 30), (.bool true)⟩,
  ⟨.idx 1, (ch 1000), (ch 1003), (.pointer (some ⟨8, 0, none⟩))⟩,
  ⟨.idx 1, (ch 1001), (ch 1003), (.pointer (some ⟨9, 0, none⟩))⟩,
  ⟨.bin .neq, (ch 1002), (ch 1002), (.bool false)⟩,
  ⟨.bin .add, (ch 1003), (.int .i64 1), (ch 1007)⟩]
theorem Zw.i248 : Zw.d15.sub 8 [[(ch 1004)], [(.bool true)]] (idl 8 Zw.d15.objs) (idA 4) (Zw.d15.st 8 []) = true := by kernel_rfl
theorem Zw.r248 : leafNext (fK (Tryz.Es Tryz.m4 (syOf Zw.t248)) 100000 100000 Zw.p0 (Zw.d15.st 8 [[(ch 1004)], [(.bool true)]]) 1) 8 Zw.d23 [(10, 10), (11, 11), (12, 12), (13, 13), (14, 14)] [(ch 1000), (ch 1001), (ch 1007)] = some Zw.p0 := by kernel_rfl
noncomputable def Zw.t250 : List SE := ncL [⟨.len, (ch 1000), (.int .i64 0), (ch 1004)⟩,
  ⟨.bin .lss, (ch 1003), (ch 1004), (.bool true)⟩,
  ⟨.len, (ch 1001), (.int .i64 0), (ch 1005)⟩,
  ⟨.bin .lss, (ch 1003), (ch 1005), (.bool true)⟩,
  ⟨.bin .lss, (ch 1003), (.int .i64 30), (.bool false)⟩]
theorem Zw.i250 : Zw.d15.sub 8 [] (idl 8 Zw.d15.objs) (idA 4) (Zw.d15.st 8 []) = true := by kernel_rfl
theorem Zw.r250 : leafFin (Tryz.Es Tryz.m4 (syOf Zw.t250)) Tryz.f4 (fK (Tryz.Es Tryz.m4 (syOf Zw.t250)) 100000 100000 Zw.p0 (Zw.d15.st 8 []) 1) = true := by kernel_rfl
noncomputable def Zw.t252 : List SE := ncL [⟨.len, (ch 1000), (.int .i64 0), (ch 1004)⟩,
  ⟨.bin .lss, (ch 1003), (ch 1004), (.bool false)⟩]
theorem Zw.i252 : Zw.d15.sub 8 [] (idl 8 Zw.d15.objs) (idA 4) (Zw.d15.st 8 []) = true := by kernel_rfl
theorem Zw.r252 : leafFin (Tryz.Es Tryz.m4 (syOf Zw.t252)) Tryz.f4 (fK (Tryz.Es Tryz.m4 (syOf Zw.t252)) 100000 100000 Zw.p0 (Zw.d15.st 8 []) 1) = true := by kernel_rfl
noncomputable def Zw.t254 : List SE := ncL [⟨.len, (ch 1000), (.int .i64 0), (ch 1005)⟩,
  ⟨.bin .lss, (ch 1003), (ch 1005), (.bool true)⟩,
  ⟨.len, (ch 1001), (.int .i64 0), (ch 1006)⟩,
  ⟨.bin .lss, (ch 1003), (ch 1006), (.bool true)⟩,
  ⟨.bin .lss, (ch 1003), (.int .i64 30), (.bool true)⟩,
  ⟨.idx 1, (ch 1000), (ch 1003), (.pointer (some ⟨8, 0, none⟩))⟩,
  ⟨.idx 1, (ch 1001), (ch 1003), (.pointer (some ⟨9, 0, none⟩))⟩,
  ⟨.bin .neq, (ch 1002), (ch 1002), (.bool false)⟩,
  ⟨.bin .add, (ch 1003), (.int .i64 1), (ch 1007)⟩]
theorem Zw.i254 : Zw.d16.sub 8 [[(ch 1004)], [(.bool false)]] (idl 8 Zw.d16.objs) (idA 4) (Zw.d16.st 8 []) = true := by kernel_rfl
theorem Zw.r254 : leafNext (fK (Tryz.Es Tryz.m4 (syOf Zw.t254)) 100000 100000 Zw.p0 (Zw.d16.st 8 [[(ch 1004)], [(.bool false)]]) 1) 8 Zw.d16 [(10, 10), (11, 11), (12, 12), (13, 13), (14, 14)] [(ch 1000), (ch 1001), (ch 1004), (ch 1007)] = some Zw.p0 := by kernel_rfl
noncomputable def Zw.t256 : List SE := ncL [⟨.len, (ch 1000), (.int .i64 0), (ch 1004)⟩,
  ⟨.bin .lss, (ch 1003), (ch 1004), (.bool true)⟩,
  ⟨.len, (ch 1001), (.int .i64 0), (ch 1005)⟩,
  ⟨.bin .lss, (ch 1003), (ch 1005), (.bool false)⟩]
theorem Zw.i256 : Zw.d16.sub 8 [] (idl 8 Zw.d16.objs) (idA 4) (Zw.d16.st 8 []) = true := by kernel_rfl
theorem Zw.r256 : leafFin (Tryz.Es Tryz.m4 (syOf Zw.t256)) Tryz.f4 (fK (Tryz.Es Tryz.m4 (syOf Zw.t256)) 100000 100000 Zw.p0 (Zw.d16.st 8 []) 1) = true := by kernel_rfl
noncomputable def Zw.t263 : List SE := ncL [⟨.len, (ch 1000), (.int .i64 0), (ch 1004)⟩,
  ⟨.bin .lss, (ch 1002), (ch 1004), (.bool true)⟩,
  ⟨.len, (ch 1001), (.int .i64 0), (ch 1005)⟩,
  ⟨.bin .lss, (ch 1002), (ch 1005), (.bool true)⟩,
  ⟨.bin .lss, (ch 1002), (.int .i64 30), (.bool true)⟩,
  ⟨.idx 1, (ch 1000), (ch 1002), (.pointer (some ⟨8, 0, none⟩))⟩,
  ⟨.idx 1, (ch 1001), (ch 1002), (.pointer (some ⟨9, 0, none⟩))⟩,
  ⟨.bin .add, (ch 1002), (.int .i64 1), (ch 1006)⟩]
theorem Zw.i263 : Zw.d17.sub 8 [[(ch 1003)], [(.bool true)]] (idl 8 Zw.d17.objs) (idA 3) (Zw.d17.st 8 []) = true := by kernel_rfl
theorem Zw.r263 : leafNext (fK (Tryz.Es Tryz.m4 (syOf Zw.t263)) 100000 100000 Zw.p0 (Zw.d17.st 8 [[(ch 1003)], [(.bool true)]]) 1) 8 Zw.d17 [(10, 10), (11, 11), (12, 12), (13, 13), (14, 14)] [(ch 1000), (ch 1001), (ch 1006)] = some Zw.p0 := by kernel_rfl
noncomputable def Zw.t265 : List SE := ncL [⟨.len, (ch 1000), (.int .i64 0), (ch 1003)⟩,
  ⟨.bin .lss, (ch 1002), (ch 1003), (.bool true)⟩,
  ⟨.len, (ch 1001), (.int .i64 0), (ch 1004)⟩,
  ⟨.bin .lss, (ch 1002), (ch 1004), (.bool true)⟩,
  ⟨.bin .lss, (ch 1002), (.int .i64 30), (.bool false)⟩]
theorem Zw.i265 : Zw.d17.sub 8 [] (idl 8 Zw.d17.objs) (idA 3) (Zw.d17.st 8 []) = true := by kernel_rfl
theorem Zw.r265 : leafFin (Tryz.Es Tryz.m4 (syOf Zw.t265)) Tryz.f4 (fK (Tryz.Es Tryz.m4 (syOf Zw.t265)) 100000 100000 Zw.p0 (Zw.d17.st 8 []) 1) = true := by kernel_rfl
noncomputable def Zw.t267 : List SE := ncL [⟨.len, (ch 1000), (.int .i64 0), (ch 1003)⟩,
  ⟨.bin .lss, (ch 1002), (ch 1003), (.bool false)⟩]
theorem Zw.i267 : Zw.d17.sub 8 [] (idl 8 Zw.d17.objs) (idA 3) (Zw.d17.st 8 []) = true := by kernel_rfl
theorem Zw.r267 : leafFin (Tryz.Es Tryz.m4 (syOf Zw.t267)) Tryz.f4 (fK (Tryz.Es Tryz.m4 (syOf Zw.t267)) 100000 100000 Zw.p0 (Zw.d17.st 8 []) 1) = true := by kernel_rfl
noncomputable def Zw.t269 : List SE := ncL [⟨.len, (ch 1000), (.int .i64 0), (ch 1004)⟩,
  ⟨.bin .lss, (ch 1002), (ch 1004), (.bool true)⟩,
  ⟨.len, (ch 1001), (.int .i64 0), (ch 1005)⟩,
  ⟨.bin .lss, (ch 1002), (ch 1005), (.bool true)⟩,
  ⟨.bin .lss, (ch 1002), (.int .i64 30), (.bool true)⟩,
  ⟨.idx 1, (ch 1000), (ch 1002), (.pointer (some ⟨8, 0, none⟩))⟩,
  ⟨.idx 1, (ch 1001), (ch 1002), (.pointer (some ⟨9, 0, none⟩))⟩,
  ⟨.bin .add, (ch 1002), (.int .i64 1), (ch 1006)⟩]
theorem Zw.i269 : Zw.d18.sub 8 [[(ch 1003)], [(.bool false)]] (idl 8 Zw.d18.objs) (idA 3) (Zw.d18.st 8 []) = true := by kernel_rfl
theorem Zw.r269 : leafNext (fK (Tryz.Es Tryz.m4 (syOf Zw.t269)) 100000 100000 Zw.p0 (Zw.d18.st 8 [[(ch 1003)], [(.bool false)]]) 1) 8 Zw.d10 [(10, 10), (11, 11), (12, 12), (13, 13), (14, 14)] [(ch 1000), (ch 1001), (ch 1003), (ch 1006)] = some Zw.p0 := by kernel_rfl
noncomputable def Zw.t271 : List SE := ncL [⟨.len, (ch 1000), (.int .i64 0), (ch 1003)⟩,
  ⟨.bin .lss, (ch 1002), (ch 1003), (.bool true)⟩,
  ⟨.len, (ch 1001), (.int .i64 0), (ch 1004)⟩,
  ⟨.bin .lss, (ch 1002), (ch 1004), (.bool false)⟩]
theorem Zw.i271 : Zw.d18.sub 8 [] (idl 8 Zw.d18.objs) (idA 3) (Zw.d18.st 8 []) = true := by kernel_rfl
theorem Zw.r271 : leafFin (Tryz.Es Tryz.m4 (syOf Zw.t271)) Tryz.f4 (fK (Tryz.Es Tryz.m4 (syOf Zw.t271)) 100000 100000 Zw.p0 (Zw.d18.st 8 []) 1) = true := by kernel_rfl
noncomputable def Zw.t278 : List SE := ncL [⟨.len, (ch 1000), (.int .i64 0), (ch 1004)⟩,
  ⟨.bin .lss, (ch 1002), (ch 1004), (.bool true)⟩,
  ⟨.len, (ch 1001), (.int .i64 0), (ch 1005)⟩,
  ⟨.bin .lss, (ch 1002), (ch 1005), (.bool true)⟩,
  ⟨.bin .lss, (ch 1002), (.int .i64 30), (.bool true)⟩,
  ⟨.idx 1, (ch 1000), (ch 1002), (.pointer (some ⟨8, 0, none⟩))⟩,
  ⟨.idx 1, (ch 1001), (ch 1002), (.pointer (some ⟨9, 0, none⟩))⟩,
  ⟨.bin .add, (ch 1002), (.int .i64 1), (ch 1006)⟩]
theorem Zw.i278 : Zw.d19.sub 8 [[(ch 1003)], [(.bool true)]] (idl 8 Zw.d19.objs) (idA 3) (Zw.d19.st 8 []) = true := by kernel_rfl
theorem Zw.r278 : leafNext (fK (Tryz.Es Tryz.m4 (syOf Zw.t278)) 100000 100000 Zw.p0 (Zw.d19.st 8 [[(ch 1003)], [(.bool true)]]) 1) 8 Zw.d19 [(10, 10), (11, 11), (12, 12), (13, 13), (14, 14)] [(ch 1000), (ch 1001), (ch 1006)] = some Zw.p0 := by kernel_rfl
noncomputable def Zw.t280 : List SE := ncL [⟨.len, (ch 1000), (.int .i64 0), (ch 1003)⟩,
  ⟨.bin .lss, (ch 1002), (ch 1003), (.bool true)⟩,
  ⟨.len, (ch 1001), (.int .i64 0), (ch 1004)⟩,
  ⟨.bin .lss, (ch 1002), (ch 1004), (.bool true)⟩,
  ⟨.bin .lss, (ch 1002), (.int .i64 30), (.bool false)⟩]
theorem Zw.i280 : Zw.d19.sub 8 [] (idl 8 Zw.d19.objs) (idA 3) (Zw.d19.st 8 []) = true := by kernel_rfl
theorem Zw.r280 : leafFin (Tryz.Es Tryz.m4 (syOf Zw.t280)) Tryz.f4 (fK (Tryz.Es Tryz.m4 (syOf Zw.t280)) 100000 100000 Zw.p0 (Zw.d19.st 8 []) 1) = true := by kernel_rfl
noncomputable def Zw.t282 : List SE := ncL [⟨.len, (ch 1000), (.int .i64 0), (ch 1003)⟩,
  ⟨.bin .lss, (ch 1002), (ch 1003), (.bool false)⟩]
theorem Zw.i282 : Zw.d19.sub 8 [] (idl 8 Zw.d19.objs) (idA 3) (Zw.d19.st 8 []) = true := by kernel_rfl
theorem Zw.r282 : leafFin (Tryz.Es Tryz.m4 (syOf Zw.t282)) Tryz.f4 (fK (Tryz.Es Tryz.m4 (syOf Zw.t282)) 100000 100000 Zw.p0 (Zw.d19.st 8 []) 1) = true := by kernel_rfl
noncomputable def Zw.t294 : List SE := ncL [⟨.len, (ch 1000), (.int .i64 0), (ch 1004)⟩,
  ⟨.bin .lss, (ch 1002), (ch 1004), (.bool true)⟩,
  ⟨.len, (ch 1001), (.int .i64 0), (ch 1005)⟩,
  ⟨.bin .lss, (ch 1002), (ch 1005), (.bool true)⟩,
  ⟨.bin .lss, (ch 1002), (.int .i64 30), (.bool true)⟩,
  ⟨.idx 1, (ch 1000), (ch 1002), (.pointer (some ⟨8, 0, none⟩))⟩,
  ⟨.idx 1, (ch 1001), (ch 1002), (.pointer (some ⟨9, 0, none⟩))⟩,
  ⟨.bin .add, (ch 1002), (.int .i64 1), (ch 1006)⟩]
theorem Zw.i294 : Zw.d20.sub 8 [[(ch 1003)], [(.bool false)]] (idl 8 Zw.d20.objs) (idA 3) (Zw.d20.st 8 []) = true := by kernel_rfl
theorem Zw.r294 : leafNext (fK (Tryz.Es Tryz.m4 (syOf Zw.t294)) 100000 100000 Zw.p0 (Zw.d20.st 8 [[(ch 1003)], [(.bool false)]]) 1) 8 Zw.d12 [(10, 10), (11, 11), (12, 12), (13, 13), (14, 14)] [(ch 1000), (ch 1001), (ch 1003), (ch 1006)] = some Zw.p0 := by kernel_rfl
noncomputable def Zw.t296 : List SE := ncL [⟨.len, (ch 1000), (.int .i64 0), (ch 1003)⟩,
  ⟨.bin .lss, (ch 1002), (ch 1003), (.bool true)⟩,
  ⟨.len, (ch 1001), (.int .i64 0), (ch 1004)⟩,
  ⟨.bin .lss, (ch 1002), (ch 1004), (.bool false)⟩]
theorem Zw.i296 : Zw.d20.sub 8 [] (idl 8 Zw.d20.objs) (idA 3) (Zw.d20.st 8 []) = true := by kernel_rfl
theorem Zw.r296 : leafFin (Tryz.Es Tryz.m4 (syOf Zw.t296)) Tryz.f4 (fK (Tryz.Es Tryz.m4 (syOf Zw.t296)) 100000 100000 Zw.p0 (Zw.d20.st 8 []) 1) = true := by kernel_rfl
noncomputable def Zw.t308 : List SE := ncL [⟨.len, (ch 1000), (.int .i64 0), (ch 1004)⟩,
  ⟨.bin .lss, (ch 1002), (ch 1004), (.bool true)⟩,
  ⟨.len, (ch 1001), (.int .i64 0), (ch 1005)⟩,
  ⟨.bin .lss, (ch 1002), (ch 1005), (.bool true)⟩,
  ⟨.bin .lss, (ch 1002), (.int .i64 30), (.bool true)⟩,
  ⟨.idx 1, (ch 1000), (ch 1002), (.pointer (some ⟨8, 0, none⟩))⟩,
  ⟨.idx 1, (ch 1001), (ch 1002), (.pointer (some ⟨9, 0, none⟩))⟩,
  ⟨.bin .add, (ch 1002), (.int .i64 1), (ch 1006)⟩]
theorem Zw.i308 : Zw.d21.sub 8 [[(ch 1003)], [(.bool true)]] (idl 8 Zw.d21.objs) (idA 3) (Zw.d21.st 8 []) = true := by kernel_rfl
theorem Zw.r308 : leafNext (fK (Tryz.Es Tryz.m4 (syOf Zw.t308)) 100000 100000 Zw.p0 (Zw.d21.st 8 [[(ch 1003)], [(.bool true)]]) 1) 8 Zw.d21 [(10, 10), (11, 11), (12, 12), (13, 13), (14, 14)] [(ch 1000), (ch 1001), (ch 1006)] = some Zw.p0 := by kernel_rfl
noncomputable def Zw.t310 : List SE := ncL [⟨.len, (ch 1000), (.int .i64 0), (ch 1003)⟩,
  ⟨.bin .lss, (ch 1002), (ch 1003), (.bool true)⟩,
  ⟨.len, (ch 1001), (.int .i64 0), (ch 1004)⟩,
  ⟨.bin .lss, (ch 1002), (ch 1004), (.bool true)⟩,
  ⟨.bin .lss, (ch 1002), (.int .i64 30), (.bool false)⟩]
theorem Zw.i310 : Zw.d21.sub 8 [] (idl 8 Zw.d21.objs) (idA 3) (Zw.d21.st 8 []) = true := by kernel_rfl
theorem Zw.r310 : leafFin (Tryz.Es Tryz.m4 (syOf Zw.t310)) Tryz.f4 (fK (Tryz.Es Tryz.m4 (syOf Zw.t310)) 100000 100000 Zw.p0 (Zw.d21.st 8 []) 1) = true := by kernel_rfl
noncomputable def Zw.t312 : List SE := ncL [⟨.len, (ch 1000), (.int .i64 0), (ch 1003)⟩,
  ⟨.bin .lss, (ch 1002), (ch 1003), (.bool false)⟩]
theorem Zw.i312 : Zw.d21.sub 8 [] (idl 8 Zw.d21.objs) (idA 3) (Zw.d21.st 8 []) = true := by kernel_rfl
theorem Zw.r312 : leafFin (Tryz.Es Tryz.m4 (syOf Zw.t312)) Tryz.f4 (fK (Tryz.Es Tryz.m4 (syOf Zw.t312)) 100000 100000 Zw.p0 (Zw.d21.st 8 []) 1) = true := by kernel_rfl
noncomputable def Zw.t314 : List SE := ncL [⟨.len, (ch 1000), (.int .i64 0), (ch 1004)⟩,
  ⟨.bin .lss, (ch 1002), (ch 1004), (.bool true)⟩,
  ⟨.len, (ch 1001), (.int .i64 0), (ch 1005)⟩,
  ⟨.bin .lss, (ch 1002), (ch 1005), (.bool true)⟩,
  ⟨.bin .lss, (ch 1002), (.int .i64 30), (.bool true)⟩,
  ⟨.idx 1, (ch 1000), (ch 1002), (.pointer (some ⟨8, 0, none⟩))⟩,
  ⟨.idx 1, (ch 1001), (ch 1002), (.pointer (some ⟨9, 0, none⟩))⟩,
  ⟨.bin .add, (ch 1002), (.int .i64 1), (ch 1006)⟩]
theorem Zw.i314 : Zw.d22.sub 8 [[(ch 1003)], [(.bool false)]] (idl 8 Zw.d22.objs) (idA 3) (Zw.d22.st 8 []) = true := by kernel_rfl
theorem Zw.r314 : leafNext (fK (Tryz.Es Tryz.m4 (syOf Zw.t314)) 100000 100000 Zw.p0 (Zw.d22.st 8 [[(ch 1003)], [(.bool false)]]) 1) 8 Zw.d14 [(10, 10), (11, 11), (12, 12), (13, 13), (14, 14)] [(ch 1000), (ch 1001), (ch 1003), (ch 1006)] = some Zw.p0 := by kernel_rfl
noncomputable def Zw.t316 : List SE := ncL [⟨.len, (ch 1000), (.int .i64 0), (ch 1003)⟩,
  ⟨.bin .lss, (ch 1002), (ch 1003), (.bool true)⟩,
  ⟨.len, (ch 1001), (.int .i64 0), (ch 1004)⟩,
  ⟨.bin .lss, (ch 1002), (ch 1004), (.bool false)⟩]
theorem Zw.i316 : Zw.d22.sub 8 [] (idl 8 Zw.d22.objs) (idA 3) (Zw.d22.st 8 []) = true := by kernel_rfl
theorem Zw.r316 : leafFin (Tryz.Es Tryz.m4 (syOf Zw.t316)) Tryz.f4 (fK (Tryz.Es Tryz.m4 (syOf Zw.t316)) 100000 100000 Zw.p0 (Zw.d22.st 8 []) 1) = true := by kernel_rfl
noncomputable def Zw.t323 : List SE := ncL [⟨.len, (ch 1000), (.int .i64 0), (ch 1004)⟩,
  ⟨.bin .lss, (ch 1002), (ch 1004), (.bool true)⟩,
  ⟨.len, (ch 1001), (.int .i64 0), (ch 1005)⟩,
  ⟨.bin .lss, (ch 1002), (ch 1005), (.bool true)⟩,
  ⟨.bin .lss, (ch 1002), (.int .i64 30), (.bool true)⟩,
  ⟨.idx 1, (ch 1000), (ch 1002), (.pointer (some ⟨8, 0, none⟩))⟩,
  ⟨.idx 1, (ch 1001), (ch 1002), (.pointer (some ⟨9, 0, none⟩))⟩,
  ⟨.bin .add, (ch 1002), (.int .i64 1), (ch 1006)⟩]
theorem Zw.i323 : Zw.d23.sub 8 [[(ch 1003)], [(.bool true)]] (idl 8 Zw.d23.objs) (idA 3) (Zw.d23.st 8 []) = true := by kernel_rfl
theorem Zw.r323 : leafNext (fK (Tryz.Es Tryz.m4 (syOf Zw.t323)) 100000 100000 Zw.p0 (Zw.d23.st 8 [[(ch 1003)], [(.bool true)]]) 1) 8 Zw.d23 [(10, 10), (11, 11), (12, 12), (13, 13), (14, 14)] [(ch 1000), (ch 1001), (ch 1006)] = some Zw.p0 := by kernel_rfl
noncomputable def Zw.t325 : List SE := ncL [⟨.len, (ch 1000), (.int .i64 0), (ch 1003)⟩,
  ⟨.bin .lss, (ch 1002), (ch 1003), (.bool true)⟩,
  ⟨.len, (ch 1001), (.int .i64 0), (ch 1004)⟩,
  ⟨.bin .lss, (ch 1002), (ch 1004), (.bool true)⟩,
  ⟨.bin .lss, (ch 1002), (.int .i64 30), (.bool false)⟩]
theorem Zw.i325 : Zw.d23.sub 8 [] (idl 8 Zw.d23.objs) (idA 3) (Zw.d23.st 8 []) = true := by kernel_rfl
theorem Zw.r325 : leafFin (Tryz.Es Tryz.m4 (syOf Zw.t325)) Tryz.f4 (fK (Tryz.Es Tryz.m4 (syOf Zw.t325)) 100000 100000 Zw.p0 (Zw.d23.st 8 []) 1) = true := by kernel_rfl
noncomputable def Zw.t327 : List SE := ncL [⟨.len, (ch 1000), (.int .i64 0), (ch 1003)⟩,
  ⟨.bin .lss, (ch 1002), (ch 1003), (.bool false)⟩]
theorem Zw.i327 : Zw.d23.sub 8 [] (idl 8 Zw.d23.objs) (idA 3) (Zw.d23.st 8 []) = true := by kernel_rfl
theorem Zw.r327 : leafFin (Tryz.Es Tryz.m4 (syOf Zw.t327)) Tryz.f4 (fK (Tryz.Es Tryz.m4 (syOf Zw.t327)) 100000 100000 Zw.p0 (Zw.d23.st 8 []) 1) = true := by kernel_rfl
noncomputable def Zw.t334 : List SE := ncL [⟨.len, (ch 1000), (.int .i64 0), (ch 1004)⟩,
  ⟨.bin .lss, (ch 1002), (ch 1004), (.bool true)⟩,
  ⟨.len, (ch 1001), (.int .i64 0), (ch 1005)⟩,
  ⟨.bin .lss, (ch 1002), (ch 1005), (.bool true)⟩,
  ⟨.bin .lss, (ch 1002), (.int .i64 30), (.bool true)⟩,
  ⟨.idx 1, (ch 1000), (ch 1002), (.pointer (some ⟨8, 0, none⟩))⟩,
  ⟨.idx 1, (ch 1001), (ch 1002), (.pointer (some ⟨9, 0, none⟩))⟩,
  ⟨.bin .add, (ch 1002), (.int .i64 1), (ch 1006)⟩]
theorem Zw.i334 : Zw.d24.sub 8 [[(ch 1003)], [(.bool false)]] (idl 8 Zw.d24.objs) (idA 3) (Zw.d24.st 8 []) = true := by kernel_rfl
theorem Zw.r334 : leafNext (fK (Tryz.Es Tryz.m4 (syOf Zw.t334)) 100000 100000 Zw.p0 (Zw.d24.st 8 [[(ch 1003)], [(.bool false)]]) 1) 8 Zw.d16 [(10, 10), (11, 11), (12, 12), (13, 13), (14, 14)] [(ch 1000), (ch 1001), (ch 1003), (ch 1006)] = some Zw.p0 := by kernel_rfl
noncomputable def Zw.t336 : List SE := ncL [⟨.len, (ch 1000), (.int .i64 0), (ch 1003)⟩,
  ⟨.bin .lss, (ch 1002), (ch 1003), (.bool true)⟩,
  ⟨.len, (ch 1001), (.int .i64 0), (ch 1004)⟩,
  ⟨.bin .lss, (ch 1002), (ch 1004), (.bool false)⟩]
theorem Zw.i336 : Zw.d24.sub 8 [] (idl 8 Zw.d24.objs) (idA 3) (Zw.d24.st 8 []) = true := by kernel_rfl
theorem Zw.r336 : leafFin (Tryz.Es Tryz.m4 (syOf Zw.t336)) Tryz.f4 (fK (Tryz.Es Tryz.m4 (syOf Zw.t336)) 100000 100000 Zw.p0 (Zw.d24.st 8 []) 1) = true := by kernel_rfl
end
end Go.Proofs
