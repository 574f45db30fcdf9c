/- Pieces of the law's run, from node to node, answered by the executor. No conditions. -/
import Derived.Test.YtcobhgpjdlgckaaGreatDoorVSeatSinkOwnNd
set_option linter.all false
namespace Go.Proofs
open Go Go.Vsx
set_option maxRecDepth 1000000
noncomputable section
noncomputable def Tryz.SinkOwn.t0 : List SE := ncL []
theorem Tryz.SinkOwn.i0 : Tryz.SinkOwn.d0.sub 8 [] (idl 8 Tryz.SinkOwn.d0.objs) (idA 1) (Tryz.SinkOwn.d0.st 8 []) = true := by kernel_rfl
theorem Tryz.SinkOwn.r0 : leafNext (fK (Tryz.Es Tryz.m4 (syOf Tryz.SinkOwn.t0)) 100000 100000 Tryz.SinkOwn.pS (Tryz.SinkOwn.d0.st 8 []) 0) 8 Tryz.SinkOwn.d1 [(10, 11), (11, 12), (12, 10)] [(ch 1000)] = some Tryz.SinkOwn.p0 := by kernel_rfl
noncomputable def Tryz.SinkOwn.t1 : List SE := ncL [⟨.len, (ch 1000), (.int .i64 0), (ch 1002)⟩,
  ⟨.bin .lss, (.int .i64 0), (ch 1002), (.bool true)⟩,
  ⟨.idx 1, (ch 1000), (.int .i64 0), (.pointer (some ⟨8, 0, none⟩))⟩]
theorem Tryz.SinkOwn.i1 : Tryz.SinkOwn.d1.sub 8 [[(ch 1001)]] (idl 8 Tryz.SinkOwn.d1.objs) (idA 1) (Tryz.SinkOwn.d1.st 8 []) = true := by kernel_rfl
theorem Tryz.SinkOwn.r1 : leafNext (fK (Tryz.Es Tryz.m4 (syOf Tryz.SinkOwn.t1)) 100000 100000 Tryz.SinkOwn.p0 (Tryz.SinkOwn.d1.st 8 [[(ch 1001)]]) 1) 8 Tryz.SinkOwn.d2 [(10, 10), (11, 14), (12, 12)] [(ch 1000), (ch 1001)] = some Tryz.SinkOwn.p0 := by kernel_rfl
noncomputable def Tryz.SinkOwn.t2 : List SE := ncL [⟨.len, (ch 1000), (.int .i64 0), (ch 1001)⟩,
  ⟨.bin .lss, (.int .i64 0), (ch 1001), (.bool false)⟩]
theorem Tryz.SinkOwn.i2 : Tryz.SinkOwn.d1.sub 8 [] (idl 8 Tryz.SinkOwn.d1.objs) (idA 1) (Tryz.SinkOwn.d1.st 8 []) = true := by kernel_rfl
theorem Tryz.SinkOwn.r2 : leafFin (Tryz.Es Tryz.m4 (syOf Tryz.SinkOwn.t2)) Tryz.f5 (fK (Tryz.Es Tryz.m4 (syOf Tryz.SinkOwn.t2)) 100000 100000 Tryz.SinkOwn.p0 (Tryz.SinkOwn.d1.st 8 []) 7) = true := by kernel_rfl
noncomputable def Tryz.SinkOwn.t3 : List SE := ncL [⟨.len, (ch 1000), (.int .i64 0), (ch 1003)⟩,
  ⟨.bin .lss, (.int .i64 1), (ch 1003), (.bool true)⟩,
  ⟨.idx 1, (ch 1000), (.int .i64 1), (.pointer (some ⟨8, 0, none⟩))⟩]
theorem Tryz.SinkOwn.i3 : Tryz.SinkOwn.d2.sub 8 [[(ch 1002)]] (idl 8 Tryz.SinkOwn.d2.objs) (idA 2) (Tryz.SinkOwn.d2.st 8 []) = true := by kernel_rfl
theorem Tryz.SinkOwn.r3 : leafNext (fK (Tryz.Es Tryz.m4 (syOf Tryz.SinkOwn.t3)) 100000 100000 Tryz.SinkOwn.p0 (Tryz.SinkOwn.d2.st 8 [[(ch 1002)]]) 1) 8 Tryz.SinkOwn.d3 [(10, 10), (11, 14), (12, 12)] [(ch 1000), (ch 1001), (ch 1002)] = some Tryz.SinkOwn.p0 := by kernel_rfl
noncomputable def Tryz.SinkOwn.t4 : List SE := ncL [⟨.len, (ch 1000), (.int .i64 0), (ch 1002)⟩,
  ⟨.bin .lss, (.int .i64 1), (ch 1002), (.bool false)⟩,
  ⟨.bin .add, (ch 1001), (.int .i64 9), (ch 1003)⟩,
  ⟨.bin .add, (ch 1001), (.int .i64 7), (ch 1004)⟩,
  ⟨.bin .neq, (ch 1001), (ch 1001), (.bool false)⟩]
theorem Tryz.SinkOwn.i4 : Tryz.SinkOwn.d2.sub 8 [] (idl 8 Tryz.SinkOwn.d2.objs) (idA 2) (Tryz.SinkOwn.d2.st 8 []) = true := by kernel_rfl
theorem Tryz.SinkOwn.r4 : leafFin (Tryz.Es Tryz.m4 (syOf Tryz.SinkOwn.t4)) Tryz.f5 (fK (Tryz.Es Tryz.m4 (syOf Tryz.SinkOwn.t4)) 100000 100000 Tryz.SinkOwn.p0 (Tryz.SinkOwn.d2.st 8 []) 10) = true := by kernel_rfl
noncomputable def Tryz.SinkOwn.t5 : List SE := ncL [⟨.len, (ch 1000), (.int .i64 0), (ch 1004)⟩,
  ⟨.bin .lss, (.int .i64 2), (ch 1004), (.bool true)⟩,
  ⟨.idx 1, (ch 1000), (.int .i64 2), (.pointer (some ⟨8, 0, none⟩))⟩]
theorem Tryz.SinkOwn.i5 : Tryz.SinkOwn.d3.sub 8 [[(ch 1003)]] (idl 8 Tryz.SinkOwn.d3.objs) (idA 3) (Tryz.SinkOwn.d3.st 8 []) = true := by kernel_rfl
theorem Tryz.SinkOwn.r5 : leafNext (fK (Tryz.Es Tryz.m4 (syOf Tryz.SinkOwn.t5)) 100000 100000 Tryz.SinkOwn.p0 (Tryz.SinkOwn.d3.st 8 [[(ch 1003)]]) 1) 8 Tryz.SinkOwn.d4 [(10, 10), (11, 14), (12, 12)] [(ch 1000), (ch 1001), (ch 1002), (ch 1003)] = some Tryz.SinkOwn.p0 := by kernel_rfl
noncomputable def Tryz.SinkOwn.t6 : List SE := ncL [⟨.len, (ch 1000), (.int .i64 0), (ch 1003)⟩,
  ⟨.bin .lss, (.int .i64 2), (ch 1003), (.bool false)⟩,
  ⟨.bin .add, (ch 1001), (.int .i64 9), (ch 1004)⟩,
  ⟨.bin .add, (ch 1002), (.int .i64 9), (ch 1005)⟩,
  ⟨.bin .add, (ch 1001), (.int .i64 7), (ch 1006)⟩,
  ⟨.bin .add, (ch 1002), (.int .i64 7), (ch 1007)⟩,
  ⟨.bin .neq, (ch 1001), (ch 1001), (.bool false)⟩,
  ⟨.bin .neq, (ch 1002), (ch 1002), (.bool false)⟩]
theorem Tryz.SinkOwn.i6 : Tryz.SinkOwn.d3.sub 8 [] (idl 8 Tryz.SinkOwn.d3.objs) (idA 3) (Tryz.SinkOwn.d3.st 8 []) = true := by kernel_rfl
theorem Tryz.SinkOwn.r6 : leafFin (Tryz.Es Tryz.m4 (syOf Tryz.SinkOwn.t6)) Tryz.f5 (fK (Tryz.Es Tryz.m4 (syOf Tryz.SinkOwn.t6)) 100000 100000 Tryz.SinkOwn.p0 (Tryz.SinkOwn.d3.st 8 []) 13) = true := by kernel_rfl
noncomputable def Tryz.SinkOwn.t7 : List SE := ncL [⟨.len, (ch 1000), (.int .i64 0), (ch 1005)⟩,
  ⟨.bin .lss, (.int .i64 3), (ch 1005), (.bool true)⟩,
  ⟨.idx 1, (ch 1000), (.int .i64 3), (.pointer (some ⟨8, 0, none⟩))⟩]
theorem Tryz.SinkOwn.i7 : Tryz.SinkOwn.d4.sub 8 [[(ch 1004)]] (idl 8 Tryz.SinkOwn.d4.objs) (idA 4) (Tryz.SinkOwn.d4.st 8 []) = true := by kernel_rfl
theorem Tryz.SinkOwn.r7 : leafNext (fK (Tryz.Es Tryz.m4 (syOf Tryz.SinkOwn.t7)) 100000 100000 Tryz.SinkOwn.p0 (Tryz.SinkOwn.d4.st 8 [[(ch 1004)]]) 1) 8 Tryz.SinkOwn.d5 [(10, 10), (11, 14), (12, 12)] [(ch 1000), (ch 1001), (ch 1002), (ch 1003), (ch 1004)] = some Tryz.SinkOwn.p0 := by kernel_rfl
noncomputable def Tryz.SinkOwn.t8 : List SE := ncL [⟨.len, (ch 1000), (.int .i64 0), (ch 1004)⟩,
  ⟨.bin .lss, (.int .i64 3), (ch 1004), (.bool false)⟩,
  ⟨.bin .add, (ch 1001), (.int .i64 9), (ch 1005)⟩,
  ⟨.bin .add, (ch 1002), (.int .i64 9), (ch 1006)⟩,
  ⟨.bin .add, (ch 1003), (.int .i64 9), (ch 1007)⟩,
  ⟨.bin .add, (ch 1001), (.int .i64 7), (ch 1008)⟩,
  ⟨.bin .add, (ch 1002), (.int .i64 7), (ch 1009)⟩,
  ⟨.bin .add, (ch 1003), (.int .i64 7), (ch 1010)⟩,
  ⟨.bin .neq, (ch 1001), (ch 1001), (.bool false)⟩,
  ⟨.bin .neq, (ch 1002), (ch 1002), (.bool false)⟩,
  ⟨.bin .neq, (ch 1003), (ch 1003), (.bool false)⟩]
theorem Tryz.SinkOwn.i8 : Tryz.SinkOwn.d4.sub 8 [] (idl 8 Tryz.SinkOwn.d4.objs) (idA 4) (Tryz.SinkOwn.d4.st 8 []) = true := by kernel_rfl
theorem Tryz.SinkOwn.r8 : leafFin (Tryz.Es Tryz.m4 (syOf Tryz.SinkOwn.t8)) Tryz.f5 (fK (Tryz.Es Tryz.m4 (syOf Tryz.SinkOwn.t8)) 100000 100000 Tryz.SinkOwn.p0 (Tryz.SinkOwn.d4.st 8 []) 16) = true := by kernel_rfl
noncomputable def Tryz.SinkOwn.t9 : List SE := ncL [⟨.len, (ch 1000), (.int .i64 0), (ch 1006)⟩,
  ⟨.bin .lss, (.int .i64 4), (ch 1006), (.bool true)⟩,
  ⟨.idx 1, (ch 1000), (.int .i64 4), (.pointer (some ⟨8, 0, none⟩))⟩]
theorem Tryz.SinkOwn.i9 : Tryz.SinkOwn.d5.sub 8 [[(ch 1005)]] (idl 8 Tryz.SinkOwn.d5.objs) (idA 5) (Tryz.SinkOwn.d5.st 8 []) = true := by kernel_rfl
theorem Tryz.SinkOwn.r9 : leafNext (fK (Tryz.Es Tryz.m4 (syOf Tryz.SinkOwn.t9)) 100000 100000 Tryz.SinkOwn.p0 (Tryz.SinkOwn.d5.st 8 [[(ch 1005)]]) 1) 8 Tryz.SinkOwn.d6 [(10, 10), (11, 14), (12, 12)] [(ch 1000), (ch 1001), (ch 1002), (ch 1003), (ch 1004), (ch 1005)] = some Tryz.SinkOwn.p0 := by kernel_rfl
noncomputable def Tryz.SinkOwn.t10 : List SE := ncL [⟨.len, (ch 1000), (.int .i64 0), (ch 1005)⟩,
  ⟨.bin .lss, (.int .i64 4), (ch 1005), (.bool false)⟩,
  ⟨.bin .add, (ch 1001), (.int .i64 9), (ch 1006)⟩,
  ⟨.bin .add, (ch 1002), (.int .i64 9), (ch 1007)⟩,
  ⟨.bin .add, (ch 1003), (.int .i64 9), (ch 1008)⟩,
  ⟨.bin .add, (ch 1004), (.int .i64 9), (ch 1009)⟩,
  ⟨.bin .add, (ch 1001), (.int .i64 7), (ch 1010)⟩,
  ⟨.bin .add, (ch 1002), (.int .i64 7), (ch 1011)⟩,
  ⟨.bin .add, (ch 1003), (.int .i64 7), (ch 1012)⟩,
  ⟨.bin .add, (ch 1004), (.int .i64 7), (ch 1013)⟩,
  ⟨.bin .neq, (ch 1001), (ch 1001), (.bool false)⟩,
  ⟨.bin .neq, (ch 1002), (ch 1002), (.bool false)⟩,
  ⟨.bin .neq, (ch 1003), (ch 1003), (.bool false)⟩,
  ⟨.bin .neq, (ch 1004), (ch 1004), (.bool false)⟩]
theorem Tryz.SinkOwn.i10 : Tryz.SinkOwn.d5.sub 8 [] (idl 8 Tryz.SinkOwn.d5.objs) (idA 5) (Tryz.SinkOwn.d5.st 8 []) = true := by kernel_rfl
theorem Tryz.SinkOwn.r10 : leafFin (Tryz.Es Tryz.m4 (syOf Tryz.SinkOwn.t10)) Tryz.f5 (fK (Tryz.Es Tryz.m4 (syOf Tryz.SinkOwn.t10)) 100000 100000 Tryz.SinkOwn.p0 (Tryz.SinkOwn.d5.st 8 []) 19) = true := by kernel_rfl
noncomputable def Tryz.SinkOwn.t11 : List SE := ncL [⟨.len, (ch 1000), (.int .i64 0), (ch 1007)⟩,
  ⟨.bin .lss, (.int .i64 5), (ch 1007), (.bool true)⟩,
  ⟨.idx 1, (ch 1000), (.int .i64 5), (.pointer (some ⟨8, 0, none⟩))⟩]
theorem Tryz.SinkOwn.i11 : Tryz.SinkOwn.d6.sub 8 [[(ch 1006)]] (idl 8 Tryz.SinkOwn.d6.objs) (idA 6) (Tryz.SinkOwn.d6.st 8 []) = true := by kernel_rfl
theorem Tryz.SinkOwn.r11 : leafNext (fK (Tryz.Es Tryz.m4 (syOf Tryz.SinkOwn.t11)) 100000 100000 Tryz.SinkOwn.p0 (Tryz.SinkOwn.d6.st 8 [[(ch 1006)]]) 1) 8 Tryz.SinkOwn.d7 [(10, 10), (11, 14), (12, 12)] [(ch 1000), (ch 1001), (ch 1002), (ch 1003), (ch 1004), (ch 1005), (ch 1006)] = some Tryz.SinkOwn.p0 := by kernel_rfl
end
end Go.Proofs
