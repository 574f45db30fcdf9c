/- Pieces of the law's run, from node to node, answered by the executor. No conditions. -/
import Derived.Test.YtekfgehpcakonaaGreatDoorVSeatTableAddNd
set_option linter.all false
namespace Go.Proofs
open Go Go.Vsx
set_option maxRecDepth 1000000
noncomputable section
noncomputable def Zw.t28 : List SE := ncL [⟨.len, (ch 1000), (.int .i64 0), (ch 1002)⟩,
  ⟨.bin .lss, (ch 1001), (ch 1002), (.bool false)⟩]
theorem Zw.i28 : Zw.d7.sub 8 [] (idl 8 Zw.d7.objs) (idA 2) (Zw.d7.st 8 []) = true := by kernel_rfl
theorem Zw.r28 : leafFin (Tryz.Es Tryz.m4 (syOf Zw.t28)) Tryz.f3 (fK (Tryz.Es Tryz.m4 (syOf Zw.t28)) 100000 100000 Zw.p0 (Zw.d7.st 8 []) 1) = true := by kernel_rfl
noncomputable def Zw.t29 : List SE := ncL [⟨.len, (ch 1000), (.int .i64 0), (ch 1003)⟩,
  ⟨.bin .lss, (ch 1001), (ch 1003), (.bool true)⟩,
  ⟨.bin .lss, (ch 1001), (.int .i64 30), (.bool true)⟩,
  ⟨.idx 1, (ch 1000), (ch 1001), (.pointer (some ⟨8, 0, none⟩))⟩,
  ⟨.bin .add, (.int .i64 0), (ch 1002), (ch 1004)⟩,
  ⟨.bin .neq, (ch 1004), (ch 1004), (.bool false)⟩,
  ⟨.bin .add, (ch 1001), (.int .i64 1), (ch 1005)⟩]
theorem Zw.i29 : Zw.d8.sub 8 [[(ch 1002)]] (idl 8 Zw.d8.objs) (idA 2) (Zw.d8.st 8 []) = true := by kernel_rfl
theorem Zw.r29 : leafNext (fK (Tryz.Es Tryz.m4 (syOf Zw.t29)) 100000 100000 Zw.p0 (Zw.d8.st 8 [[(ch 1002)]]) 1) 8 Zw.d16 [(10, 10), (11, 11), (12, 12), (13, 13), (14, 67)] [(ch 1000), (ch 1004), (ch 1005)] = some Zw.p0 := by kernel_rfl
noncomputable def Zw.t30 : List SE := ncL [⟨.len, (ch 1000), (.int .i64 0), (ch 1002)⟩,
  ⟨.bin .lss, (ch 1001), (ch 1002), (.bool true)⟩,
  ⟨.bin .lss, (ch 1001), (.int .i64 30), (.bool false)⟩]
theorem Zw.i30 : Zw.d8.sub 8 [] (idl 8 Zw.d8.objs) (idA 2) (Zw.d8.st 8 []) = true := by kernel_rfl
theorem Zw.r30 : leafFin (Tryz.Es Tryz.m4 (syOf Zw.t30)) Tryz.f3 (fK (Tryz.Es Tryz.m4 (syOf Zw.t30)) 100000 100000 Zw.p0 (Zw.d8.st 8 []) 1) = true := by kernel_rfl
noncomputable def Zw.t31 : List SE := ncL [⟨.len, (ch 1000), (.int .i64 0), (ch 1002)⟩,
  ⟨.bin .lss, (ch 1001), (ch 1002), (.bool false)⟩]
theorem Zw.i31 : Zw.d8.sub 8 [] (idl 8 Zw.d8.objs) (idA 2) (Zw.d8.st 8 []) = true := by kernel_rfl
theorem Zw.r31 : leafFin (Tryz.Es Tryz.m4 (syOf Zw.t31)) Tryz.f3 (fK (Tryz.Es Tryz.m4 (syOf Zw.t31)) 100000 100000 Zw.p0 (Zw.d8.st 8 []) 1) = true := by kernel_rfl
noncomputable def Zw.t35 : List SE := ncL [⟨.len, (ch 1000), (.int .i64 0), (ch 1004)⟩,
  ⟨.bin .lss, (ch 1002), (ch 1004), (.bool true)⟩,
  ⟨.bin .lss, (ch 1002), (.int .i64 30), (.bool true)⟩,
  ⟨.idx 1, (ch 1000), (ch 1002), (.pointer (some ⟨8, 0, none⟩))⟩,
  ⟨.bin .add, (ch 1001), (ch 1003), (ch 1005)⟩,
  ⟨.bin .neq, (ch 1005), (ch 1005), (.bool false)⟩,
  ⟨.bin .add, (ch 1002), (.int .i64 1), (ch 1006)⟩]
theorem Zw.i35 : Zw.d9.sub 8 [[(ch 1003)]] (idl 8 Zw.d9.objs) (idA 3) (Zw.d9.st 8 []) = true := by kernel_rfl
theorem Zw.r35 : leafNext (fK (Tryz.Es Tryz.m4 (syOf Zw.t35)) 100000 100000 Zw.p0 (Zw.d9.st 8 [[(ch 1003)]]) 1) 8 Zw.d9 [(10, 10), (11, 11), (12, 12), (13, 13), (14, 14)] [(ch 1000), (ch 1005), (ch 1006)] = some Zw.p0 := by kernel_rfl
noncomputable def Zw.t36 : List SE := ncL [⟨.len, (ch 1000), (.int .i64 0), (ch 1003)⟩,
  ⟨.bin .lss, (ch 1002), (ch 1003), (.bool true)⟩,
  ⟨.bin .lss, (ch 1002), (.int .i64 30), (.bool false)⟩]
theorem Zw.i36 : Zw.d9.sub 8 [] (idl 8 Zw.d9.objs) (idA 3) (Zw.d9.st 8 []) = true := by kernel_rfl
theorem Zw.r36 : leafFin (Tryz.Es Tryz.m4 (syOf Zw.t36)) Tryz.f3 (fK (Tryz.Es Tryz.m4 (syOf Zw.t36)) 100000 100000 Zw.p0 (Zw.d9.st 8 []) 1) = true := by kernel_rfl
noncomputable def Zw.t37 : List SE := ncL [⟨.len, (ch 1000), (.int .i64 0), (ch 1003)⟩,
  ⟨.bin .lss, (ch 1002), (ch 1003), (.bool false)⟩]
theorem Zw.i37 : Zw.d9.sub 8 [] (idl 8 Zw.d9.objs) (idA 3) (Zw.d9.st 8 []) = true := by kernel_rfl
theorem Zw.r37 : leafFin (Tryz.Es Tryz.m4 (syOf Zw.t37)) Tryz.f3 (fK (Tryz.Es Tryz.m4 (syOf Zw.t37)) 100000 100000 Zw.p0 (Zw.d9.st 8 []) 1) = true := by kernel_rfl
noncomputable def Zw.t41 : List SE := ncL [⟨.len, (ch 1000), (.int .i64 0), (ch 1004)⟩,
  ⟨.bin .lss, (ch 1002), (ch 1004), (.bool true)⟩,
  ⟨.bin .lss, (ch 1002), (.int .i64 30), (.bool true)⟩,
  ⟨.idx 1, (ch 1000), (ch 1002), (.pointer (some ⟨8, 0, none⟩))⟩,
  ⟨.bin .add, (ch 1001), (ch 1003), (ch 1005)⟩,
  ⟨.bin .neq, (ch 1005), (ch 1005), (.bool false)⟩,
  ⟨.bin .add, (ch 1002), (.int .i64 1), (ch 1006)⟩]
theorem Zw.i41 : Zw.d10.sub 8 [[(ch 1003)]] (idl 8 Zw.d10.objs) (idA 3) (Zw.d10.st 8 []) = true := by kernel_rfl
theorem Zw.r41 : leafNext (fK (Tryz.Es Tryz.m4 (syOf Zw.t41)) 100000 100000 Zw.p0 (Zw.d10.st 8 [[(ch 1003)]]) 1) 8 Zw.d10 [(10, 10), (11, 11), (12, 12), (13, 13), (14, 14)] [(ch 1000), (ch 1005), (ch 1006)] = some Zw.p0 := by kernel_rfl
noncomputable def Zw.t42 : List SE := ncL [⟨.len, (ch 1000), (.int .i64 0), (ch 1003)⟩,
  ⟨.bin .lss, (ch 1002), (ch 1003), (.bool true)⟩,
  ⟨.bin .lss, (ch 1002), (.int .i64 30), (.bool false)⟩]
theorem Zw.i42 : Zw.d10.sub 8 [] (idl 8 Zw.d10.objs) (idA 3) (Zw.d10.st 8 []) = true := by kernel_rfl
theorem Zw.r42 : leafFin (Tryz.Es Tryz.m4 (syOf Zw.t42)) Tryz.f3 (fK (Tryz.Es Tryz.m4 (syOf Zw.t42)) 100000 100000 Zw.p0 (Zw.d10.st 8 []) 1) = true := by kernel_rfl
noncomputable def Zw.t43 : List SE := ncL [⟨.len, (ch 1000), (.int .i64 0), (ch 1003)⟩,
  ⟨.bin .lss, (ch 1002), (ch 1003), (.bool false)⟩]
theorem Zw.i43 : Zw.d10.sub 8 [] (idl 8 Zw.d10.objs) (idA 3) (Zw.d10.st 8 []) = true := by kernel_rfl
theorem Zw.r43 : leafFin (Tryz.Es Tryz.m4 (syOf Zw.t43)) Tryz.f3 (fK (Tryz.Es Tryz.m4 (syOf Zw.t43)) 100000 100000 Zw.p0 (Zw.d10.st 8 []) 1) = true := by kernel_rfl
noncomputable def Zw.t47 : List SE := ncL [⟨.len, (ch 1000), (.int .i64 0), (ch 1004)⟩,
  ⟨.bin .lss, (ch 1002), (ch 1004), (.bool true)⟩,
  ⟨.bin .lss, (ch 1002), (.int .i64 30), (.bool true)⟩,
  ⟨.idx 1, (ch 1000), (ch 1002), (.pointer (some ⟨8, 0, none⟩))⟩,
  ⟨.bin .add, (ch 1001), (ch 1003), (ch 1005)⟩,
  ⟨.bin .neq, (ch 1005), (ch 1005), (.bool false)⟩,
  ⟨.bin .add, (ch 1002), (.int .i64 1), (ch 1006)⟩]
theorem Zw.i47 : Zw.d11.sub 8 [[(ch 1003)]] (idl 8 Zw.d11.objs) (idA 3) (Zw.d11.st 8 []) = true := by kernel_rfl
theorem Zw.r47 : leafNext (fK (Tryz.Es Tryz.m4 (syOf Zw.t47)) 100000 100000 Zw.p0 (Zw.d11.st 8 [[(ch 1003)]]) 1) 8 Zw.d11 [(10, 10), (11, 11), (12, 12), (13, 13), (14, 14)] [(ch 1000), (ch 1005), (ch 1006)] = some Zw.p0 := by kernel_rfl
noncomputable def Zw.t48 : List SE := ncL [⟨.len, (ch 1000), (.int .i64 0), (ch 1003)⟩,
  ⟨.bin .lss, (ch 1002), (ch 1003), (.bool true)⟩,
  ⟨.bin .lss, (ch 1002), (.int .i64 30), (.bool false)⟩]
theorem Zw.i48 : Zw.d11.sub 8 [] (idl 8 Zw.d11.objs) (idA 3) (Zw.d11.st 8 []) = true := by kernel_rfl
theorem Zw.r48 : leafFin (Tryz.Es Tryz.m4 (syOf Zw.t48)) Tryz.f3 (fK (Tryz.Es Tryz.m4 (syOf Zw.t48)) 100000 100000 Zw.p0 (Zw.d11.st 8 []) 1) = true := by kernel_rfl
noncomputable def Zw.t49 : List SE := ncL [⟨.len, (ch 1000), (.int .i64 0), (ch 1003)⟩,
  ⟨.bin .lss, (ch 1002), (ch 1003), (.bool false)⟩]
theorem Zw.i49 : Zw.d11.sub 8 [] (idl 8 Zw.d11.objs) (idA 3) (Zw.d11.st 8 []) = true := by kernel_rfl
theorem Zw.r49 : leafFin (Tryz.Es Tryz.m4 (syOf Zw.t49)) Tryz.f3 (fK (Tryz.Es Tryz.m4 (syOf Zw.t49)) 100000 100000 Zw.p0 (Zw.d11.st 8 []) 1) = true := by kernel_rfl
noncomputable def Zw.t53 : List SE := ncL [⟨.len, (ch 1000), (.int .i64 0), (ch 1004)⟩,
  ⟨.bin .lss, (ch 1002), (ch 1004), (.bool true)⟩,
  ⟨.bin .lss, (ch 1002), (.int .i64 30), (.bool true)⟩,
  ⟨.idx 1, (ch 1000), (ch 1002), (.pointer (some ⟨8, 0, none⟩))⟩,
  ⟨.bin .add, (ch 1001), (ch 1003), (ch 1005)⟩,
  ⟨.bin .neq, (ch 1005), (ch 1005), (.bool false)⟩,
  ⟨.bin .add, (ch 1002), (.int .i64 1), (ch 1006)⟩]
theorem Zw.i53 : Zw.d12.sub 8 [[(ch 1003)]] (idl 8 Zw.d12.objs) (idA 3) (Zw.d12.st 8 []) = true := by kernel_rfl
theorem Zw.r53 : leafNext (fK (Tryz.Es Tryz.m4 (syOf Zw.t53)) 100000 100000 Zw.p0 (Zw.d12.st 8 [[(ch 1003)]]) 1) 8 Zw.d12 [(10, 10), (11, 11), (12, 12), (13, 13), (14, 14)] [(ch 1000), (ch 1005), (ch 1006)] = some Zw.p0 := by kernel_rfl
noncomputable def Zw.t54 : List SE := ncL [⟨.len, (ch 1000), (.int .i64 0), (ch 1003)⟩,
  ⟨.bin .lss, (ch 1002), (ch 1003), (.bool true)⟩,
  ⟨.bin .lss, (ch 1002), (.int .i64 30), (.bool false)⟩]
theorem Zw.i54 : Zw.d12.sub 8 [] (idl 8 Zw.d12.objs) (idA 3) (Zw.d12.st 8 []) = true := by kernel_rfl
theorem Zw.r54 : leafFin (Tryz.Es Tryz.m4 (syOf Zw.t54)) Tryz.f3 (fK (Tryz.Es Tryz.m4 (syOf Zw.t54)) 100000 100000 Zw.p0 (Zw.d12.st 8 []) 1) = true := by kernel_rfl
noncomputable def Zw.t55 : List SE := ncL [⟨.len, (ch 1000), (.int .i64 0), (ch 1003)⟩,
  ⟨.bin .lss, (ch 1002), (ch 1003), (.bool false)⟩]
theorem Zw.i55 : Zw.d12.sub 8 [] (idl 8 Zw.d12.objs) (idA 3) (Zw.d12.st 8 []) = true := by kernel_rfl
theorem Zw.r55 : leafFin (Tryz.Es Tryz.m4 (syOf Zw.t55)) Tryz.f3 (fK (Tryz.Es Tryz.m4 (syOf Zw.t55)) 100000 100000 Zw.p0 (Zw.d12.st 8 []) 1) = true := by kernel_rfl
noncomputable def Zw.t59 : List SE := ncL [⟨.len, (ch 1000), (.int .i64 0), (ch 1004)⟩,
  ⟨.bin .lss, (ch 1002), (ch 1004), (.bool true)⟩,
  ⟨.bin .lss, (ch 1002), (.int .i64 30), (.bool true)⟩,
  ⟨.idx 1, (ch 1000), (ch 1002), (.pointer (some ⟨8, 0, none⟩))⟩,
  ⟨.bin .add, (ch 1001), (ch 1003), (ch 1005)⟩,
  ⟨.bin .neq, (ch 1005), (ch 1005), (.bool false)⟩,
  ⟨.bin .add, (ch 1002), (.int .i64 1), (ch 1006)⟩]
theorem Zw.i59 : Zw.d13.sub 8 [[(ch 1003)]] (idl 8 Zw.d13.objs) (idA 3) (Zw.d13.st 8 []) = true := by kernel_rfl
theorem Zw.r59 : leafNext (fK (Tryz.Es Tryz.m4 (syOf Zw.t59)) 100000 100000 Zw.p0 (Zw.d13.st 8 [[(ch 1003)]]) 1) 8 Zw.d13 [(10, 10), (11, 11), (12, 12), (13, 13), (14, 14)] [(ch 1000), (ch 1005), (ch 1006)] = some Zw.p0 := by kernel_rfl
noncomputable def Zw.t60 : List SE := ncL [⟨.len, (ch 1000), (.int .i64 0), (ch 1003)⟩,
  ⟨.bin .lss, (ch 1002), (ch 1003), (.bool true)⟩,
  ⟨.bin .lss, (ch 1002), (.int .i64 30), (.bool false)⟩]
theorem Zw.i60 : Zw.d13.sub 8 [] (idl 8 Zw.d13.objs) (idA 3) (Zw.d13.st 8 []) = true := by kernel_rfl
theorem Zw.r60 : leafFin (Tryz.Es Tryz.m4 (syOf Zw.t60)) Tryz.f3 (fK (Tryz.Es Tryz.m4 (syOf Zw.t60)) 100000 100000 Zw.p0 (Zw.d13.st 8 []) 1) = true := by kernel_rfl
noncomputable def Zw.t61 : List SE := ncL [⟨.len, (ch 1000), (.int .i64 0), (ch 1003)⟩,
  ⟨.bin .lss, (ch 1002), (ch 1003), (.bool false)⟩]
theorem Zw.i61 : Zw.d13.sub 8 [] (idl 8 Zw.d13.objs) (idA 3) (Zw.d13.st 8 []) = true := by kernel_rfl
theorem Zw.r61 : leafFin (Tryz.Es Tryz.m4 (syOf Zw.t61)) Tryz.f3 (fK (Tryz.Es Tryz.m4 (syOf Zw.t61)) 100000 100000 Zw.p0 (Zw.d13.st 8 []) 1) = true := by kernel_rfl
noncomputable def Zw.t65 : List SE := ncL [⟨.len, (ch 1000), (.int .i64 0), (ch 1004)⟩,
  ⟨.bin .lss, (ch 1002), (ch 1004), (.bool true)⟩,
  ⟨.bin .lss, (ch 1002), (.int .i64 30), (.bool true)⟩,
  ⟨.idx 1, (ch 1000), (ch 1002), (.pointer (some ⟨8, 0, none⟩))⟩,
  ⟨.bin .add, (ch 1001), (ch 1003), (ch 1005)⟩,
  ⟨.bin .neq, (ch 1005), (ch 1005), (.bool false)⟩,
  ⟨.bin .add, (ch 1002), (.int .i64 1), (ch 1006)⟩]
theorem Zw.i65 : Zw.d14.sub 8 [[(ch 1003)]] (idl 8 Zw.d14.objs) (idA 3) (Zw.d14.st 8 []) = true := by kernel_rfl
theorem Zw.r65 : leafNext (fK (Tryz.Es Tryz.m4 (syOf Zw.t65)) 100000 100000 Zw.p0 (Zw.d14.st 8 [[(ch 1003)]]) 1) 8 Zw.d14 [(10, 10), (11, 11), (12, 12), (13, 13), (14, 14)] [(ch 1000), (ch 1005), (ch 1006)] = some Zw.p0 := by kernel_rfl
noncomputable def Zw.t66 : List SE := ncL [⟨.len, (ch 1000), (.int .i64 0), (ch 1003)⟩,
  ⟨.bin .lss, (ch 1002), (ch 1003), (.bool true)⟩,
  ⟨.bin .lss, (ch 1002), (.int .i64 30), (.bool false)⟩]
theorem Zw.i66 : Zw.d14.sub 8 [] (idl 8 Zw.d14.objs) (idA 3) (Zw.d14.st 8 []) = true := by kernel_rfl
theorem Zw.r66 : leafFin (Tryz.Es Tryz.m4 (syOf Zw.t66)) Tryz.f3 (fK (Tryz.Es Tryz.m4 (syOf Zw.t66)) 100000 100000 Zw.p0 (Zw.d14.st 8 []) 1) = true := by kernel_rfl
noncomputable def Zw.t67 : List SE := ncL [⟨.len, (ch 1000), (.int .i64 0), (ch 1003)⟩,
  ⟨.bin .lss, (ch 1002), (ch 1003), (.bool false)⟩]
theorem Zw.i67 : Zw.d14.sub 8 [] (idl 8 Zw.d14.objs) (idA 3) (Zw.d14.st 8 []) = true := by kernel_rfl
theorem Zw.r67 : leafFin (Tryz.Es Tryz.m4 (syOf Zw.t67)) Tryz.f3 (fK (Tryz.Es Tryz.m4 (syOf Zw.t67)) 100000 100000 Zw.p0 (Zw.d14.st 8 []) 1) = true := by kernel_rfl
noncomputable def Zw.t71 : List SE := ncL [⟨.len, (ch 1000), (.int .i64 0), (ch 1004)⟩,
  ⟨.bin .lss, (ch 1002), (ch 1004), (.bool true)⟩,
  ⟨.bin .lss, (ch 1002), (.int .i64 30), (.bool true)⟩,
  ⟨.idx 1, (ch 1000), (ch 1002), (.pointer (some ⟨8, 0, none⟩))⟩,
  ⟨.bin .add, (ch 1001), (ch 1003), (ch 1005)⟩,
  ⟨.bin .neq, (ch 1005), (ch 1005), (.bool false)⟩,
  ⟨.bin .add, (ch 1002), (.int .i64 1), (ch 1006)⟩]
theorem Zw.i71 : Zw.d15.sub 8 [[(ch 1003)]] (idl 8 Zw.d15.objs) (idA 3) (Zw.d15.st 8 []) = true := by kernel_rfl
theorem Zw.r71 : leafNext (fK (Tryz.Es Tryz.m4 (syOf Zw.t71)) 100000 100000 Zw.p0 (Zw.d15.st 8 [[(ch 1003)]]) 1) 8 Zw.d15 [(10, 10), (11, 11), (12, 12), (13, 13), (14, 14)] [(ch 1000), (ch 1005), (ch 1006)] = some Zw.p0 := by kernel_rfl
noncomputable def Zw.t72 : List SE := ncL [⟨.len, (ch 1000), (.int .i64 0), (ch 1003)⟩,
  ⟨.bin .lss, (ch 1002), (ch 1003), (.bool true)⟩,
  ⟨.bin .lss, (ch 1002), (.int .i64 30), (.bool false)⟩]
theorem Zw.i72 : Zw.d15.sub 8 [] (idl 8 Zw.d15.objs) (idA 3) (Zw.d15.st 8 []) = true := by kernel_rfl
theorem Zw.r72 : leafFin (Tryz.Es Tryz.m4 (syOf Zw.t72)) Tryz.f3 (fK (Tryz.Es Tryz.m4 (syOf Zw.t72)) 100000 100000 Zw.p0 (Zw.d15.st 8 []) 1) = true := by kernel_rfl
noncomputable def Zw.t73 : List SE := ncL [⟨.len, (ch 1000), (.int .i64 0), (ch 1003)⟩,
  ⟨.bin .lss, (ch 1002), (ch 1003), (.bool false)⟩]
theorem Zw.i73 : Zw.d15.sub 8 [] (idl 8 Zw.d15.objs) (idA 3) (Zw.d15.st 8 []) = true := by kernel_rfl
theorem Zw.r73 : leafFin (Tryz.Es Tryz.m4 (syOf Zw.t73)) Tryz.f3 (fK (Tryz.Es Tryz.m4 (syOf Zw.t73)) 100000 100000 Zw.p0 (Zw.d15.st 8 []) 1) = true := by kernel_rfl
noncomputable def Zw.t77 : List SE := ncL [⟨.len, (ch 1000), (.int .i64 0), (ch 1004)⟩,
  ⟨.bin .lss, (ch 1002), (ch 1004), (.bool true)⟩,
  ⟨.bin .lss, (ch 1002), (.int .i64 30), (.bool true)⟩,
  ⟨.idx 1, (ch 1000), (ch 1002), (.pointer (some ⟨8, 0, none⟩))⟩,
  ⟨.bin .add, (ch 1001), (ch 1003), (ch 1005)⟩,
  ⟨.bin .neq, (ch 1005), (ch 1005), (.bool false)⟩,
  ⟨.bin .add, (ch 1002), (.int .i64 1), (ch 1006)⟩]
theorem Zw.i77 : Zw.d16.sub 8 [[(ch 1003)]] (idl 8 Zw.d16.objs) (idA 3) (Zw.d16.st 8 []) = true := by kernel_rfl
theorem Zw.r77 : leafNext (fK (Tryz.Es Tryz.m4 (syOf Zw.t77)) 100000 100000 Zw.p0 (Zw.d16.st 8 [[(ch 1003)]]) 1) 8 Zw.d16 [(10, 10), (11, 11), (12, 12), (13, 13), (14, 14)] [(ch 1000), (ch 1005), (ch 1006)] = some Zw.p0 := by kernel_rfl
noncomputable def Zw.t78 : List SE := ncL [⟨.len, (ch 1000), (.int .i64 0), (ch 1003)⟩,
  ⟨.bin .lss, (ch 1002), (ch 1003), (.bool true)⟩,
  ⟨.bin .lss, (ch 1002), (.int .i64 30), (.bool false)⟩]
theorem Zw.i78 : Zw.d16.sub 8 [] (idl 8 Zw.d16.objs) (idA 3) (Zw.d16.st 8 []) = true := by kernel_rfl
theorem Zw.r78 : leafFin (Tryz.Es Tryz.m4 (syOf Zw.t78)) Tryz.f3 (fK (Tryz.Es Tryz.m4 (syOf Zw.t78)) 100000 100000 Zw.p0 (Zw.d16.st 8 []) 1) = true := by kernel_rfl
noncomputable def Zw.t79 : List SE := ncL [⟨.len, (ch 1000), (.int .i64 0), (ch 1003)⟩,
  ⟨.bin .lss, (ch 1002), (ch 1003), (.bool false)⟩]
theorem Zw.i79 : Zw.d16.sub 8 [] (idl 8 Zw.d16.objs) (idA 3) (Zw.d16.st 8 []) = true := by kernel_rfl
theorem Zw.r79 : leafFin (Tryz.Es Tryz.m4 (syOf Zw.t79)) Tryz.f3 (fK (Tryz.Es Tryz.m4 (syOf Zw.t79)) 100000 100000 Zw.p0 (Zw.d16.st 8 []) 1) = true := by kernel_rfl
end
end Go.Proofs
