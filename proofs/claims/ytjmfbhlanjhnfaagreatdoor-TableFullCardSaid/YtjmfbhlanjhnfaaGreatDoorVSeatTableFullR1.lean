/- Pieces of the law's run, from node to node, answered by the executor. No conditions. -/
import Derived.Test.YtjmfbhlanjhnfaaGreatDoorVSeatTableFullNd
set_option linter.all false
namespace Go.Proofs
open Go Go.Vsx
set_option maxRecDepth 1000000
noncomputable section
noncomputable def Zw.t0 : List SE := ncL [⟨.bin .rem, (ch 1000), (.int .i64 12), (ch 1002)⟩,
  ⟨.bin .add, (ch 1002), (.int .i64 12), (ch 1003)⟩,
  ⟨.bin .rem, (ch 1003), (.int .i64 12), (ch 1004)⟩]
theorem Zw.i0 : Zw.d0.sub 8 [] (idl 8 Zw.d0.objs) (idA 2) (Zw.d0.st 8 []) = true := by kernel_rfl
theorem Zw.r0 : leafNext (fK (Tryz.Es Tryz.m4 (syOf Zw.t0)) 100000 100000 Zw.pS (Zw.d0.st 8 []) 0) 8 Zw.d1 [(10, 13), (11, 15), (12, 16), (13, 10), (14, 11), (15, 12), (16, 14)] [(ch 1004), (ch 1001)] = some Zw.p0 := by kernel_rfl
noncomputable def Zw.t4 : List SE := ncL [⟨.bin .add, (.int .i64 90), (ch 1000), (ch 1003)⟩,
  ⟨.bin .lss, (.int .i64 3), (ch 1003), (.bool true)⟩,
  ⟨.bin .add, (ch 1002), (ch 1001), (ch 1004)⟩,
  ⟨.bin .mul, (ch 1001), (.int .i64 4), (ch 1005)⟩,
  ⟨.bin .neq, (ch 1004), (ch 1005), (.bool false)⟩]
theorem Zw.i4 : Zw.d4.sub 8 [] (idl 8 Zw.d4.objs) (idA 3) (Zw.d4.st 8 []) = true := by kernel_rfl
theorem Zw.r4 : leafNext (fK (Tryz.Es Tryz.m4 (syOf Zw.t4)) 100000 100000 Zw.p0 (Zw.d4.st 8 []) 1) 8 Zw.d5 [(10, 10), (11, 11), (12, 12), (13, 13), (14, 14), (15, 15), (16, 16), (17, 17), (18, 18), (19, 196)] [(ch 1000), (ch 1001), (ch 1004)] = some Zw.p0 := by kernel_rfl
noncomputable def Zw.t8 : List SE := ncL [⟨.bin .add, (.int .i64 90), (ch 1000), (ch 1003)⟩,
  ⟨.bin .lss, (.int .i64 7), (ch 1003), (.bool true)⟩,
  ⟨.bin .add, (ch 1002), (ch 1001), (ch 1004)⟩,
  ⟨.bin .mul, (ch 1001), (.int .i64 8), (ch 1005)⟩,
  ⟨.bin .neq, (ch 1004), (ch 1005), (.bool false)⟩]
theorem Zw.i8 : Zw.d8.sub 8 [] (idl 8 Zw.d8.objs) (idA 3) (Zw.d8.st 8 []) = true := by kernel_rfl
theorem Zw.r8 : leafNext (fK (Tryz.Es Tryz.m4 (syOf Zw.t8)) 100000 100000 Zw.p0 (Zw.d8.st 8 []) 1) 8 Zw.d9 [(10, 10), (11, 11), (12, 12), (13, 13), (14, 14), (15, 15), (16, 16), (17, 17), (18, 18), (19, 196)] [(ch 1000), (ch 1001), (ch 1004)] = some Zw.p0 := by kernel_rfl
noncomputable def Zw.t12 : List SE := ncL [⟨.bin .add, (.int .i64 90), (ch 1000), (ch 1003)⟩,
  ⟨.bin .lss, (.int .i64 11), (ch 1003), (.bool true)⟩,
  ⟨.bin .add, (ch 1002), (ch 1001), (ch 1004)⟩,
  ⟨.bin .mul, (ch 1001), (.int .i64 12), (ch 1005)⟩,
  ⟨.bin .neq, (ch 1004), (ch 1005), (.bool false)⟩]
theorem Zw.i12 : Zw.d12.sub 8 [] (idl 8 Zw.d12.objs) (idA 3) (Zw.d12.st 8 []) = true := by kernel_rfl
theorem Zw.r12 : leafNext (fK (Tryz.Es Tryz.m4 (syOf Zw.t12)) 100000 100000 Zw.p0 (Zw.d12.st 8 []) 1) 8 Zw.d13 [(10, 10), (11, 11), (12, 12), (13, 13), (14, 14), (15, 15), (16, 16), (17, 17), (18, 18), (19, 196)] [(ch 1000), (ch 1001), (ch 1004)] = some Zw.p0 := by kernel_rfl
noncomputable def Zw.t16 : List SE := ncL [⟨.bin .add, (.int .i64 90), (ch 1000), (ch 1003)⟩,
  ⟨.bin .lss, (.int .i64 15), (ch 1003), (.bool true)⟩,
  ⟨.bin .add, (ch 1002), (ch 1001), (ch 1004)⟩,
  ⟨.bin .mul, (ch 1001), (.int .i64 16), (ch 1005)⟩,
  ⟨.bin .neq, (ch 1004), (ch 1005), (.bool false)⟩]
theorem Zw.i16 : Zw.d16.sub 8 [] (idl 8 Zw.d16.objs) (idA 3) (Zw.d16.st 8 []) = true := by kernel_rfl
theorem Zw.r16 : leafNext (fK (Tryz.Es Tryz.m4 (syOf Zw.t16)) 100000 100000 Zw.p0 (Zw.d16.st 8 []) 1) 8 Zw.d17 [(10, 10), (11, 11), (12, 12), (13, 13), (14, 14), (15, 15), (16, 16), (17, 17), (18, 18), (19, 196)] [(ch 1000), (ch 1001), (ch 1004)] = some Zw.p0 := by kernel_rfl
noncomputable def Zw.t20 : List SE := ncL [⟨.bin .add, (.int .i64 90), (ch 1000), (ch 1003)⟩,
  ⟨.bin .lss, (.int .i64 19), (ch 1003), (.bool true)⟩,
  ⟨.bin .add, (ch 1002), (ch 1001), (ch 1004)⟩,
  ⟨.bin .mul, (ch 1001), (.int .i64 20), (ch 1005)⟩,
  ⟨.bin .neq, (ch 1004), (ch 1005), (.bool false)⟩]
theorem Zw.i20 : Zw.d20.sub 8 [] (idl 8 Zw.d20.objs) (idA 3) (Zw.d20.st 8 []) = true := by kernel_rfl
theorem Zw.r20 : leafNext (fK (Tryz.Es Tryz.m4 (syOf Zw.t20)) 100000 100000 Zw.p0 (Zw.d20.st 8 []) 1) 8 Zw.d21 [(10, 10), (11, 11), (12, 12), (13, 13), (14, 14), (15, 15), (16, 16), (17, 17), (18, 18), (19, 196)] [(ch 1000), (ch 1001), (ch 1004)] = some Zw.p0 := by kernel_rfl
noncomputable def Zw.t24 : List SE := ncL [⟨.bin .add, (.int .i64 90), (ch 1000), (ch 1003)⟩,
  ⟨.bin .lss, (.int .i64 23), (ch 1003), (.bool true)⟩,
  ⟨.bin .add, (ch 1002), (ch 1001), (ch 1004)⟩,
  ⟨.bin .mul, (ch 1001), (.int .i64 24), (ch 1005)⟩,
  ⟨.bin .neq, (ch 1004), (ch 1005), (.bool false)⟩]
theorem Zw.i24 : Zw.d24.sub 8 [] (idl 8 Zw.d24.objs) (idA 3) (Zw.d24.st 8 []) = true := by kernel_rfl
theorem Zw.r24 : leafNext (fK (Tryz.Es Tryz.m4 (syOf Zw.t24)) 100000 100000 Zw.p0 (Zw.d24.st 8 []) 1) 8 Zw.d25 [(10, 10), (11, 11), (12, 12), (13, 13), (14, 14), (15, 15), (16, 16), (17, 17), (18, 18), (19, 196)] [(ch 1000), (ch 1001), (ch 1004)] = some Zw.p0 := by kernel_rfl
noncomputable def Zw.t28 : List SE := ncL [⟨.bin .add, (.int .i64 90), (ch 1000), (ch 1003)⟩,
  ⟨.bin .lss, (.int .i64 27), (ch 1003), (.bool true)⟩,
  ⟨.bin .add, (ch 1002), (ch 1001), (ch 1004)⟩,
  ⟨.bin .mul, (ch 1001), (.int .i64 28), (ch 1005)⟩,
  ⟨.bin .neq, (ch 1004), (ch 1005), (.bool false)⟩]
theorem Zw.i28 : Zw.d28.sub 8 [] (idl 8 Zw.d28.objs) (idA 3) (Zw.d28.st 8 []) = true := by kernel_rfl
theorem Zw.r28 : leafNext (fK (Tryz.Es Tryz.m4 (syOf Zw.t28)) 100000 100000 Zw.p0 (Zw.d28.st 8 []) 1) 8 Zw.d29 [(10, 10), (11, 11), (12, 12), (13, 13), (14, 14), (15, 15), (16, 16), (17, 17), (18, 18), (19, 196)] [(ch 1000), (ch 1001), (ch 1004)] = some Zw.p0 := by kernel_rfl
noncomputable def Zw.t32 : List SE := ncL [⟨.bin .add, (.int .i64 90), (ch 1000), (ch 1003)⟩,
  ⟨.bin .lss, (.int .i64 31), (ch 1003), (.bool true)⟩,
  ⟨.bin .add, (ch 1002), (ch 1001), (ch 1004)⟩,
  ⟨.bin .mul, (ch 1001), (.int .i64 32), (ch 1005)⟩,
  ⟨.bin .neq, (ch 1004), (ch 1005), (.bool false)⟩]
theorem Zw.i32 : Zw.d32.sub 8 [] (idl 8 Zw.d32.objs) (idA 3) (Zw.d32.st 8 []) = true := by kernel_rfl
theorem Zw.r32 : leafNext (fK (Tryz.Es Tryz.m4 (syOf Zw.t32)) 100000 100000 Zw.p0 (Zw.d32.st 8 []) 1) 8 Zw.d33 [(10, 10), (11, 11), (12, 12), (13, 13), (14, 14), (15, 15), (16, 16), (17, 17), (18, 18), (19, 196)] [(ch 1000), (ch 1001), (ch 1004)] = some Zw.p0 := by kernel_rfl
noncomputable def Zw.t36 : List SE := ncL [⟨.bin .add, (.int .i64 90), (ch 1000), (ch 1003)⟩,
  ⟨.bin .lss, (.int .i64 35), (ch 1003), (.bool true)⟩,
  ⟨.bin .add, (ch 1002), (ch 1001), (ch 1004)⟩,
  ⟨.bin .mul, (ch 1001), (.int .i64 36), (ch 1005)⟩,
  ⟨.bin .neq, (ch 1004), (ch 1005), (.bool false)⟩]
theorem Zw.i36 : Zw.d36.sub 8 [] (idl 8 Zw.d36.objs) (idA 3) (Zw.d36.st 8 []) = true := by kernel_rfl
theorem Zw.r36 : leafNext (fK (Tryz.Es Tryz.m4 (syOf Zw.t36)) 100000 100000 Zw.p0 (Zw.d36.st 8 []) 1) 8 Zw.d37 [(10, 10), (11, 11), (12, 12), (13, 13), (14, 14), (15, 15), (16, 16), (17, 17), (18, 18), (19, 196)] [(ch 1000), (ch 1001), (ch 1004)] = some Zw.p0 := by kernel_rfl
noncomputable def Zw.t40 : List SE := ncL [⟨.bin .add, (.int .i64 90), (ch 1000), (ch 1003)⟩,
  ⟨.bin .lss, (.int .i64 39), (ch 1003), (.bool true)⟩,
  ⟨.bin .add, (ch 1002), (ch 1001), (ch 1004)⟩,
  ⟨.bin .mul, (ch 1001), (.int .i64 40), (ch 1005)⟩,
  ⟨.bin .neq, (ch 1004), (ch 1005), (.bool false)⟩]
theorem Zw.i40 : Zw.d40.sub 8 [] (idl 8 Zw.d40.objs) (idA 3) (Zw.d40.st 8 []) = true := by kernel_rfl
theorem Zw.r40 : leafNext (fK (Tryz.Es Tryz.m4 (syOf Zw.t40)) 100000 100000 Zw.p0 (Zw.d40.st 8 []) 1) 8 Zw.d41 [(10, 10), (11, 11), (12, 12), (13, 13), (14, 14), (15, 15), (16, 16), (17, 17), (18, 18), (19, 196)] [(ch 1000), (ch 1001), (ch 1004)] = some Zw.p0 := by kernel_rfl
noncomputable def Zw.t44 : List SE := ncL [⟨.bin .add, (.int .i64 90), (ch 1000), (ch 1003)⟩,
  ⟨.bin .lss, (.int .i64 43), (ch 1003), (.bool true)⟩,
  ⟨.bin .add, (ch 1002), (ch 1001), (ch 1004)⟩,
  ⟨.bin .mul, (ch 1001), (.int .i64 44), (ch 1005)⟩,
  ⟨.bin .neq, (ch 1004), (ch 1005), (.bool false)⟩]
theorem Zw.i44 : Zw.d44.sub 8 [] (idl 8 Zw.d44.objs) (idA 3) (Zw.d44.st 8 []) = true := by kernel_rfl
theorem Zw.r44 : leafNext (fK (Tryz.Es Tryz.m4 (syOf Zw.t44)) 100000 100000 Zw.p0 (Zw.d44.st 8 []) 1) 8 Zw.d45 [(10, 10), (11, 11), (12, 12), (13, 13), (14, 14), (15, 15), (16, 16), (17, 17), (18, 18), (19, 196)] [(ch 1000), (ch 1001), (ch 1004)] = some Zw.p0 := by kernel_rfl
noncomputable def Zw.t48 : List SE := ncL [⟨.bin .add, (.int .i64 90), (ch 1000), (ch 1003)⟩,
  ⟨.bin .lss, (.int .i64 47), (ch 1003), (.bool true)⟩,
  ⟨.bin .add, (ch 1002), (ch 1001), (ch 1004)⟩,
  ⟨.bin .mul, (ch 1001), (.int .i64 48), (ch 1005)⟩,
  ⟨.bin .neq, (ch 1004), (ch 1005), (.bool false)⟩]
theorem Zw.i48 : Zw.d48.sub 8 [] (idl 8 Zw.d48.objs) (idA 3) (Zw.d48.st 8 []) = true := by kernel_rfl
theorem Zw.r48 : leafNext (fK (Tryz.Es Tryz.m4 (syOf Zw.t48)) 100000 100000 Zw.p0 (Zw.d48.st 8 []) 1) 8 Zw.d49 [(10, 10), (11, 11), (12, 12), (13, 13), (14, 14), (15, 15), (16, 16), (17, 17), (18, 18), (19, 196)] [(ch 1000), (ch 1001), (ch 1004)] = some Zw.p0 := by kernel_rfl
noncomputable def Zw.t52 : List SE := ncL [⟨.bin .add, (.int .i64 90), (ch 1000), (ch 1003)⟩,
  ⟨.bin .lss, (.int .i64 51), (ch 1003), (.bool true)⟩,
  ⟨.bin .add, (ch 1002), (ch 1001), (ch 1004)⟩,
  ⟨.bin .mul, (ch 1001), (.int .i64 52), (ch 1005)⟩,
  ⟨.bin .neq, (ch 1004), (ch 1005), (.bool false)⟩]
theorem Zw.i52 : Zw.d52.sub 8 [] (idl 8 Zw.d52.objs) (idA 3) (Zw.d52.st 8 []) = true := by kernel_rfl
theorem Zw.r52 : leafNext (fK (Tryz.Es Tryz.m4 (syOf Zw.t52)) 100000 100000 Zw.p0 (Zw.d52.st 8 []) 1) 8 Zw.d53 [(10, 10), (11, 11), (12, 12), (13, 13), (14, 14), (15, 15), (16, 16), (17, 17), (18, 18), (19, 196)] [(ch 1000), (ch 1001), (ch 1004)] = some Zw.p0 := by kernel_rfl
noncomputable def Zw.t56 : List SE := ncL [⟨.bin .add, (.int .i64 90), (ch 1000), (ch 1003)⟩,
  ⟨.bin .lss, (.int .i64 55), (ch 1003), (.bool true)⟩,
  ⟨.bin .add, (ch 1002), (ch 1001), (ch 1004)⟩,
  ⟨.bin .mul, (ch 1001), (.int .i64 56), (ch 1005)⟩,
  ⟨.bin .neq, (ch 1004), (ch 1005), (.bool false)⟩]
theorem Zw.i56 : Zw.d56.sub 8 [] (idl 8 Zw.d56.objs) (idA 3) (Zw.d56.st 8 []) = true := by kernel_rfl
theorem Zw.r56 : leafNext (fK (Tryz.Es Tryz.m4 (syOf Zw.t56)) 100000 100000 Zw.p0 (Zw.d56.st 8 []) 1) 8 Zw.d57 [(10, 10), (11, 11), (12, 12), (13, 13), (14, 14), (15, 15), (16, 16), (17, 17), (18, 18), (19, 196)] [(ch 1000), (ch 1001), (ch 1004)] = some Zw.p0 := by kernel_rfl
noncomputable def Zw.t60 : List SE := ncL [⟨.bin .add, (.int .i64 90), (ch 1000), (ch 1003)⟩,
  ⟨.bin .lss, (.int .i64 59), (ch 1003), (.bool true)⟩,
  ⟨.bin .add, (ch 1002), (ch 1001), (ch 1004)⟩,
  ⟨.bin .mul, (ch 1001), (.int .i64 60), (ch 1005)⟩,
  ⟨.bin .neq, (ch 1004), (ch 1005), (.bool false)⟩]
theorem Zw.i60 : Zw.d60.sub 8 [] (idl 8 Zw.d60.objs) (idA 3) (Zw.d60.st 8 []) = true := by kernel_rfl
theorem Zw.r60 : leafNext (fK (Tryz.Es Tryz.m4 (syOf Zw.t60)) 100000 100000 Zw.p0 (Zw.d60.st 8 []) 1) 8 Zw.d61 [(10, 10), (11, 11), (12, 12), (13, 13), (14, 14), (15, 15), (16, 16), (17, 17), (18, 18), (19, 196)] [(ch 1000), (ch 1001), (ch 1004)] = some Zw.p0 := by kernel_rfl
noncomputable def Zw.t64 : List SE := ncL [⟨.bin .add, (.int .i64 90), (ch 1000), (ch 1003)⟩,
  ⟨.bin .lss, (.int .i64 63), (ch 1003), (.bool true)⟩,
  ⟨.bin .add, (ch 1002), (ch 1001), (ch 1004)⟩,
  ⟨.bin .mul, (ch 1001), (.int .i64 64), (ch 1005)⟩,
  ⟨.bin .neq, (ch 1004), (ch 1005), (.bool false)⟩]
theorem Zw.i64 : Zw.d64.sub 8 [] (idl 8 Zw.d64.objs) (idA 3) (Zw.d64.st 8 []) = true := by kernel_rfl
theorem Zw.r64 : leafNext (fK (Tryz.Es Tryz.m4 (syOf Zw.t64)) 100000 100000 Zw.p0 (Zw.d64.st 8 []) 1) 8 Zw.d65 [(10, 10), (11, 11), (12, 12), (13, 13), (14, 14), (15, 15), (16, 16), (17, 17), (18, 18), (19, 196)] [(ch 1000), (ch 1001), (ch 1004)] = some Zw.p0 := by kernel_rfl
noncomputable def Zw.t68 : List SE := ncL [⟨.bin .add, (.int .i64 90), (ch 1000), (ch 1003)⟩,
  ⟨.bin .lss, (.int .i64 67), (ch 1003), (.bool true)⟩,
  ⟨.bin .add, (ch 1002), (ch 1001), (ch 1004)⟩,
  ⟨.bin .mul, (ch 1001), (.int .i64 68), (ch 1005)⟩,
  ⟨.bin .neq, (ch 1004), (ch 1005), (.bool false)⟩]
theorem Zw.i68 : Zw.d68.sub 8 [] (idl 8 Zw.d68.objs) (idA 3) (Zw.d68.st 8 []) = true := by kernel_rfl
theorem Zw.r68 : leafNext (fK (Tryz.Es Tryz.m4 (syOf Zw.t68)) 100000 100000 Zw.p0 (Zw.d68.st 8 []) 1) 8 Zw.d69 [(10, 10), (11, 11), (12, 12), (13, 13), (14, 14), (15, 15), (16, 16), (17, 17), (18, 18), (19, 196)] [(ch 1000), (ch 1001), (ch 1004)] = some Zw.p0 := by kernel_rfl
noncomputable def Zw.t72 : List SE := ncL [⟨.bin .add, (.int .i64 90), (ch 1000), (ch 1003)⟩,
  ⟨.bin .lss, (.int .i64 71), (ch 1003), (.bool true)⟩,
  ⟨.bin .add, (ch 1002), (ch 1001), (ch 1004)⟩,
  ⟨.bin .mul, (ch 1001), (.int .i64 72), (ch 1005)⟩,
  ⟨.bin .neq, (ch 1004), (ch 1005), (.bool false)⟩]
theorem Zw.i72 : Zw.d72.sub 8 [] (idl 8 Zw.d72.objs) (idA 3) (Zw.d72.st 8 []) = true := by kernel_rfl
theorem Zw.r72 : leafNext (fK (Tryz.Es Tryz.m4 (syOf Zw.t72)) 100000 100000 Zw.p0 (Zw.d72.st 8 []) 1) 8 Zw.d73 [(10, 10), (11, 11), (12, 12), (13, 13), (14, 14), (15, 15), (16, 16), (17, 17), (18, 18), (19, 196)] [(ch 1000), (ch 1001), (ch 1004)] = some Zw.p0 := by kernel_rfl
noncomputable def Zw.t76 : List SE := ncL [⟨.bin .add, (.int .i64 90), (ch 1000), (ch 1003)⟩,
  ⟨.bin .lss, (.int .i64 75), (ch 1003), (.bool true)⟩,
  ⟨.bin .add, (ch 1002), (ch 1001), (ch 1004)⟩,
  ⟨.bin .mul, (ch 1001), (.int .i64 76), (ch 1005)⟩,
  ⟨.bin .neq, (ch 1004), (ch 1005), (.bool false)⟩]
theorem Zw.i76 : Zw.d76.sub 8 [] (idl 8 Zw.d76.objs) (idA 3) (Zw.d76.st 8 []) = true := by kernel_rfl
theorem Zw.r76 : leafNext (fK (Tryz.Es Tryz.m4 (syOf Zw.t76)) 100000 100000 Zw.p0 (Zw.d76.st 8 []) 1) 8 Zw.d77 [(10, 10), (11, 11), (12, 12), (13, 13), (14, 14), (15, 15), (16, 16), (17, 17), (18, 18), (19, 196)] [(ch 1000), (ch 1001), (ch 1004)] = some Zw.p0 := by kernel_rfl
noncomputable def Zw.t80 : List SE := ncL [⟨.bin .add, (.int .i64 90), (ch 1000), (ch 1003)⟩,
  ⟨.bin .lss, (.int .i64 79), (ch 1003), (.bool true)⟩,
  ⟨.bin .add, (ch 1002), (ch 1001), (ch 1004)⟩,
  ⟨.bin .mul, (ch 1001), (.int .i64 80), (ch 1005)⟩,
  ⟨.bin .neq, (ch 1004), (ch 1005), (.bool false)⟩]
theorem Zw.i80 : Zw.d80.sub 8 [] (idl 8 Zw.d80.objs) (idA 3) (Zw.d80.st 8 []) = true := by kernel_rfl
theorem Zw.r80 : leafNext (fK (Tryz.Es Tryz.m4 (syOf Zw.t80)) 100000 100000 Zw.p0 (Zw.d80.st 8 []) 1) 8 Zw.d81 [(10, 10), (11, 11), (12, 12), (13, 13), (14, 14), (15, 15), (16, 16), (17, 17), (18, 18), (19, 196)] [(ch 1000), (ch 1001), (ch 1004)] = some Zw.p0 := by kernel_rfl
noncomputable def Zw.t84 : List SE := ncL [⟨.bin .add, (.int .i64 90), (ch 1000), (ch 1003)⟩,
  ⟨.bin .lss, (.int .i64 83), (ch 1003), (.bool true)⟩,
  ⟨.bin .add, (ch 1002), (ch 1001), (ch 1004)⟩,
  ⟨.bin .mul, (ch 1001), (.int .i64 84), (ch 1005)⟩,
  ⟨.bin .neq, (ch 1004), (ch 1005), (.bool false)⟩]
theorem Zw.i84 : Zw.d84.sub 8 [] (idl 8 Zw.d84.objs) (idA 3) (Zw.d84.st 8 []) = true := by kernel_rfl
theorem Zw.r84 : leafNext (fK (Tryz.Es Tryz.m4 (syOf Zw.t84)) 100000 100000 Zw.p0 (Zw.d84.st 8 []) 1) 8 Zw.d85 [(10, 10), (11, 11), (12, 12), (13, 13), (14, 14), (15, 15), (16, 16), (17, 17), (18, 18), (19, 196)] [(ch 1000), (ch 1001), (ch 1004)] = some Zw.p0 := by kernel_rfl
noncomputable def Zw.t88 : List SE := ncL [⟨.bin .add, (.int .i64 90), (ch 1000), (ch 1003)⟩,
  ⟨.bin .lss, (.int .i64 87), (ch 1003), (.bool true)⟩,
  ⟨.bin .add, (ch 1002), (ch 1001), (ch 1004)⟩,
  ⟨.bin .mul, (ch 1001), (.int .i64 88), (ch 1005)⟩,
  ⟨.bin .neq, (ch 1004), (ch 1005), (.bool false)⟩]
theorem Zw.i88 : Zw.d88.sub 8 [] (idl 8 Zw.d88.objs) (idA 3) (Zw.d88.st 8 []) = true := by kernel_rfl
theorem Zw.r88 : leafNext (fK (Tryz.Es Tryz.m4 (syOf Zw.t88)) 100000 100000 Zw.p0 (Zw.d88.st 8 []) 1) 8 Zw.d89 [(10, 10), (11, 11), (12, 12), (13, 13), (14, 14), (15, 15), (16, 16), (17, 17), (18, 18), (19, 196)] [(ch 1000), (ch 1001), (ch 1004)] = some Zw.p0 := by kernel_rfl
noncomputable def Zw.t92 : List SE := ncL [⟨.bin .add, (.int .i64 90), (ch 1000), (ch 1003)⟩,
  ⟨.bin .lss, (.int .i64 90), (ch 1003), (.bool false)⟩]
theorem Zw.i92 : Zw.d91.sub 8 [] (idl 8 Zw.d91.objs) (idA 3) (Zw.d91.st 8 []) = true := by kernel_rfl
theorem Zw.r92 : leafFin (Tryz.Es Tryz.m4 (syOf Zw.t92)) Tryz.f7 (fK (Tryz.Es Tryz.m4 (syOf Zw.t92)) 100000 100000 Zw.p0 (Zw.d91.st 8 []) 1) = true := by kernel_rfl
noncomputable def Zw.t96 : List SE := ncL [⟨.bin .add, (.int .i64 90), (ch 1000), (ch 1003)⟩,
  ⟨.bin .lss, (.int .i64 92), (ch 1003), (.bool false)⟩]
theorem Zw.i96 : Zw.d93.sub 8 [] (idl 8 Zw.d93.objs) (idA 3) (Zw.d93.st 8 []) = true := by kernel_rfl
theorem Zw.r96 : leafFin (Tryz.Es Tryz.m4 (syOf Zw.t96)) Tryz.f7 (fK (Tryz.Es Tryz.m4 (syOf Zw.t96)) 100000 100000 Zw.p0 (Zw.d93.st 8 []) 1) = true := by kernel_rfl
noncomputable def Zw.t100 : List SE := ncL [⟨.bin .add, (.int .i64 90), (ch 1000), (ch 1003)⟩,
  ⟨.bin .lss, (.int .i64 94), (ch 1003), (.bool false)⟩]
theorem Zw.i100 : Zw.d95.sub 8 [] (idl 8 Zw.d95.objs) (idA 3) (Zw.d95.st 8 []) = true := by kernel_rfl
theorem Zw.r100 : leafFin (Tryz.Es Tryz.m4 (syOf Zw.t100)) Tryz.f7 (fK (Tryz.Es Tryz.m4 (syOf Zw.t100)) 100000 100000 Zw.p0 (Zw.d95.st 8 []) 1) = true := by kernel_rfl
noncomputable def Zw.t104 : List SE := ncL [⟨.bin .add, (.int .i64 90), (ch 1000), (ch 1003)⟩,
  ⟨.bin .lss, (.int .i64 96), (ch 1003), (.bool false)⟩]
theorem Zw.i104 : Zw.d97.sub 8 [] (idl 8 Zw.d97.objs) (idA 3) (Zw.d97.st 8 []) = true := by kernel_rfl
theorem Zw.r104 : leafFin (Tryz.Es Tryz.m4 (syOf Zw.t104)) Tryz.f7 (fK (Tryz.Es Tryz.m4 (syOf Zw.t104)) 100000 100000 Zw.p0 (Zw.d97.st 8 []) 1) = true := by kernel_rfl
noncomputable def Zw.t108 : List SE := ncL [⟨.bin .add, (.int .i64 90), (ch 1000), (ch 1003)⟩,
  ⟨.bin .lss, (.int .i64 98), (ch 1003), (.bool false)⟩]
theorem Zw.i108 : Zw.d99.sub 8 [] (idl 8 Zw.d99.objs) (idA 3) (Zw.d99.st 8 []) = true := by kernel_rfl
theorem Zw.r108 : leafFin (Tryz.Es Tryz.m4 (syOf Zw.t108)) Tryz.f7 (fK (Tryz.Es Tryz.m4 (syOf Zw.t108)) 100000 100000 Zw.p0 (Zw.d99.st 8 []) 1) = true := by kernel_rfl
noncomputable def Zw.t112 : List SE := ncL [⟨.bin .add, (.int .i64 90), (ch 1000), (ch 1003)⟩,
  ⟨.bin .lss, (.int .i64 100), (ch 1003), (.bool false)⟩]
theorem Zw.i112 : Zw.d101.sub 8 [] (idl 8 Zw.d101.objs) (idA 3) (Zw.d101.st 8 []) = true := by kernel_rfl
theorem Zw.r112 : leafFin (Tryz.Es Tryz.m4 (syOf Zw.t112)) Tryz.f7 (fK (Tryz.Es Tryz.m4 (syOf Zw.t112)) 100000 100000 Zw.p0 (Zw.d101.st 8 []) 1) = true := by kernel_rfl
end
end Go.Proofs
