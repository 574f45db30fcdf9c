/- Pieces of the law's run, from node to node, answered by the executor. No conditions. -/
import Derived.Test.YtjmfbhlanjhnfaaGreatDoorVSeatTableFullNd
set_option linter.all false
namespace Go.Proofs
open Go Go.Vsx
set_option maxRecDepth 1000000
noncomputable section
noncomputable def Zw.t1 : List SE := ncL [⟨.bin .add, (.int .i64 90), (ch 1000), (ch 1002)⟩,
  ⟨.bin .lss, (.int .i64 0), (ch 1002), (.bool true)⟩,
  ⟨.bin .add, (.int .i64 0), (ch 1001), (ch 1003)⟩,
  ⟨.bin .mul, (ch 1001), (.int .i64 1), (ch 1004)⟩,
  ⟨.bin .neq, (ch 1003), (ch 1004), (.bool false)⟩]
theorem Zw.i1 : Zw.d1.sub 8 [] (idl 8 Zw.d1.objs) (idA 2) (Zw.d1.st 8 []) = true := by kernel_rfl
theorem Zw.r1 : leafNext (fK (Tryz.Es Tryz.m4 (syOf Zw.t1)) 100000 100000 Zw.p0 (Zw.d1.st 8 []) 1) 8 Zw.d2 [(10, 10), (11, 11), (12, 12), (13, 13), (14, 14), (15, 15), (16, 16), (17, 108), (18, 118), (19, 115)] [(ch 1000), (ch 1001), (ch 1003)] = some Zw.p0 := by kernel_rfl
noncomputable def Zw.t5 : List SE := ncL [⟨.bin .add, (.int .i64 90), (ch 1000), (ch 1003)⟩,
  ⟨.bin .lss, (.int .i64 4), (ch 1003), (.bool true)⟩,
  ⟨.bin .add, (ch 1002), (ch 1001), (ch 1004)⟩,
  ⟨.bin .mul, (ch 1001), (.int .i64 5), (ch 1005)⟩,
  ⟨.bin .neq, (ch 1004), (ch 1005), (.bool false)⟩]
theorem Zw.i5 : Zw.d5.sub 8 [] (idl 8 Zw.d5.objs) (idA 3) (Zw.d5.st 8 []) = true := by kernel_rfl
theorem Zw.r5 : leafNext (fK (Tryz.Es Tryz.m4 (syOf Zw.t5)) 100000 100000 Zw.p0 (Zw.d5.st 8 []) 1) 8 Zw.d6 [(10, 10), (11, 11), (12, 12), (13, 13), (14, 14), (15, 15), (16, 16), (17, 17), (18, 18), (19, 196)] [(ch 1000), (ch 1001), (ch 1004)] = some Zw.p0 := by kernel_rfl
noncomputable def Zw.t9 : List SE := ncL [⟨.bin .add, (.int .i64 90), (ch 1000), (ch 1003)⟩,
  ⟨.bin .lss, (.int .i64 8), (ch 1003), (.bool true)⟩,
  ⟨.bin .add, (ch 1002), (ch 1001), (ch 1004)⟩,
  ⟨.bin .mul, (ch 1001), (.int .i64 9), (ch 1005)⟩,
  ⟨.bin .neq, (ch 1004), (ch 1005), (.bool false)⟩]
theorem Zw.i9 : Zw.d9.sub 8 [] (idl 8 Zw.d9.objs) (idA 3) (Zw.d9.st 8 []) = true := by kernel_rfl
theorem Zw.r9 : leafNext (fK (Tryz.Es Tryz.m4 (syOf Zw.t9)) 100000 100000 Zw.p0 (Zw.d9.st 8 []) 1) 8 Zw.d10 [(10, 10), (11, 11), (12, 12), (13, 13), (14, 14), (15, 15), (16, 16), (17, 17), (18, 18), (19, 196)] [(ch 1000), (ch 1001), (ch 1004)] = some Zw.p0 := by kernel_rfl
noncomputable def Zw.t13 : List SE := ncL [⟨.bin .add, (.int .i64 90), (ch 1000), (ch 1003)⟩,
  ⟨.bin .lss, (.int .i64 12), (ch 1003), (.bool true)⟩,
  ⟨.bin .add, (ch 1002), (ch 1001), (ch 1004)⟩,
  ⟨.bin .mul, (ch 1001), (.int .i64 13), (ch 1005)⟩,
  ⟨.bin .neq, (ch 1004), (ch 1005), (.bool false)⟩]
theorem Zw.i13 : Zw.d13.sub 8 [] (idl 8 Zw.d13.objs) (idA 3) (Zw.d13.st 8 []) = true := by kernel_rfl
theorem Zw.r13 : leafNext (fK (Tryz.Es Tryz.m4 (syOf Zw.t13)) 100000 100000 Zw.p0 (Zw.d13.st 8 []) 1) 8 Zw.d14 [(10, 10), (11, 11), (12, 12), (13, 13), (14, 14), (15, 15), (16, 16), (17, 17), (18, 18), (19, 196)] [(ch 1000), (ch 1001), (ch 1004)] = some Zw.p0 := by kernel_rfl
noncomputable def Zw.t17 : List SE := ncL [⟨.bin .add, (.int .i64 90), (ch 1000), (ch 1003)⟩,
  ⟨.bin .lss, (.int .i64 16), (ch 1003), (.bool true)⟩,
  ⟨.bin .add, (ch 1002), (ch 1001), (ch 1004)⟩,
  ⟨.bin .mul, (ch 1001), (.int .i64 17), (ch 1005)⟩,
  ⟨.bin .neq, (ch 1004), (ch 1005), (.bool false)⟩]
theorem Zw.i17 : Zw.d17.sub 8 [] (idl 8 Zw.d17.objs) (idA 3) (Zw.d17.st 8 []) = true := by kernel_rfl
theorem Zw.r17 : leafNext (fK (Tryz.Es Tryz.m4 (syOf Zw.t17)) 100000 100000 Zw.p0 (Zw.d17.st 8 []) 1) 8 Zw.d18 [(10, 10), (11, 11), (12, 12), (13, 13), (14, 14), (15, 15), (16, 16), (17, 17), (18, 18), (19, 196)] [(ch 1000), (ch 1001), (ch 1004)] = some Zw.p0 := by kernel_rfl
noncomputable def Zw.t21 : List SE := ncL [⟨.bin .add, (.int .i64 90), (ch 1000), (ch 1003)⟩,
  ⟨.bin .lss, (.int .i64 20), (ch 1003), (.bool true)⟩,
  ⟨.bin .add, (ch 1002), (ch 1001), (ch 1004)⟩,
  ⟨.bin .mul, (ch 1001), (.int .i64 21), (ch 1005)⟩,
  ⟨.bin .neq, (ch 1004), (ch 1005), (.bool false)⟩]
theorem Zw.i21 : Zw.d21.sub 8 [] (idl 8 Zw.d21.objs) (idA 3) (Zw.d21.st 8 []) = true := by kernel_rfl
theorem Zw.r21 : leafNext (fK (Tryz.Es Tryz.m4 (syOf Zw.t21)) 100000 100000 Zw.p0 (Zw.d21.st 8 []) 1) 8 Zw.d22 [(10, 10), (11, 11), (12, 12), (13, 13), (14, 14), (15, 15), (16, 16), (17, 17), (18, 18), (19, 196)] [(ch 1000), (ch 1001), (ch 1004)] = some Zw.p0 := by kernel_rfl
noncomputable def Zw.t25 : List SE := ncL [⟨.bin .add, (.int .i64 90), (ch 1000), (ch 1003)⟩,
  ⟨.bin .lss, (.int .i64 24), (ch 1003), (.bool true)⟩,
  ⟨.bin .add, (ch 1002), (ch 1001), (ch 1004)⟩,
  ⟨.bin .mul, (ch 1001), (.int .i64 25), (ch 1005)⟩,
  ⟨.bin .neq, (ch 1004), (ch 1005), (.bool false)⟩]
theorem Zw.i25 : Zw.d25.sub 8 [] (idl 8 Zw.d25.objs) (idA 3) (Zw.d25.st 8 []) = true := by kernel_rfl
theorem Zw.r25 : leafNext (fK (Tryz.Es Tryz.m4 (syOf Zw.t25)) 100000 100000 Zw.p0 (Zw.d25.st 8 []) 1) 8 Zw.d26 [(10, 10), (11, 11), (12, 12), (13, 13), (14, 14), (15, 15), (16, 16), (17, 17), (18, 18), (19, 196)] [(ch 1000), (ch 1001), (ch 1004)] = some Zw.p0 := by kernel_rfl
noncomputable def Zw.t29 : List SE := ncL [⟨.bin .add, (.int .i64 90), (ch 1000), (ch 1003)⟩,
  ⟨.bin .lss, (.int .i64 28), (ch 1003), (.bool true)⟩,
  ⟨.bin .add, (ch 1002), (ch 1001), (ch 1004)⟩,
  ⟨.bin .mul, (ch 1001), (.int .i64 29), (ch 1005)⟩,
  ⟨.bin .neq, (ch 1004), (ch 1005), (.bool false)⟩]
theorem Zw.i29 : Zw.d29.sub 8 [] (idl 8 Zw.d29.objs) (idA 3) (Zw.d29.st 8 []) = true := by kernel_rfl
theorem Zw.r29 : leafNext (fK (Tryz.Es Tryz.m4 (syOf Zw.t29)) 100000 100000 Zw.p0 (Zw.d29.st 8 []) 1) 8 Zw.d30 [(10, 10), (11, 11), (12, 12), (13, 13), (14, 14), (15, 15), (16, 16), (17, 17), (18, 18), (19, 196)] [(ch 1000), (ch 1001), (ch 1004)] = some Zw.p0 := by kernel_rfl
noncomputable def Zw.t33 : List SE := ncL [⟨.bin .add, (.int .i64 90), (ch 1000), (ch 1003)⟩,
  ⟨.bin .lss, (.int .i64 32), (ch 1003), (.bool true)⟩,
  ⟨.bin .add, (ch 1002), (ch 1001), (ch 1004)⟩,
  ⟨.bin .mul, (ch 1001), (.int .i64 33), (ch 1005)⟩,
  ⟨.bin .neq, (ch 1004), (ch 1005), (.bool false)⟩]
theorem Zw.i33 : Zw.d33.sub 8 [] (idl 8 Zw.d33.objs) (idA 3) (Zw.d33.st 8 []) = true := by kernel_rfl
theorem Zw.r33 : leafNext (fK (Tryz.Es Tryz.m4 (syOf Zw.t33)) 100000 100000 Zw.p0 (Zw.d33.st 8 []) 1) 8 Zw.d34 [(10, 10), (11, 11), (12, 12), (13, 13), (14, 14), (15, 15), (16, 16), (17, 17), (18, 18), (19, 196)] [(ch 1000), (ch 1001), (ch 1004)] = some Zw.p0 := by kernel_rfl
noncomputable def Zw.t37 : List SE := ncL [⟨.bin .add, (.int .i64 90), (ch 1000), (ch 1003)⟩,
  ⟨.bin .lss, (.int .i64 36), (ch 1003), (.bool true)⟩,
  ⟨.bin .add, (ch 1002), (ch 1001), (ch 1004)⟩,
  ⟨.bin .mul, (ch 1001), (.int .i64 37), (ch 1005)⟩,
  ⟨.bin .neq, (ch 1004), (ch 1005), (.bool false)⟩]
theorem Zw.i37 : Zw.d37.sub 8 [] (idl 8 Zw.d37.objs) (idA 3) (Zw.d37.st 8 []) = true := by kernel_rfl
theorem Zw.r37 : leafNext (fK (Tryz.Es Tryz.m4 (syOf Zw.t37)) 100000 100000 Zw.p0 (Zw.d37.st 8 []) 1) 8 Zw.d38 [(10, 10), (11, 11), (12, 12), (13, 13), (14, 14), (15, 15), (16, 16), (17, 17), (18, 18), (19, 196)] [(ch 1000), (ch 1001), (ch 1004)] = some Zw.p0 := by kernel_rfl
noncomputable def Zw.t41 : List SE := ncL [⟨.bin .add, (.int .i64 90), (ch 1000), (ch 1003)⟩,
  ⟨.bin .lss, (.int .i64 40), (ch 1003), (.bool true)⟩,
  ⟨.bin .add, (ch 1002), (ch 1001), (ch 1004)⟩,
  ⟨.bin .mul, (ch 1001), (.int .i64 41), (ch 1005)⟩,
  ⟨.bin .neq, (ch 1004), (ch 1005), (.bool false)⟩]
theorem Zw.i41 : Zw.d41.sub 8 [] (idl 8 Zw.d41.objs) (idA 3) (Zw.d41.st 8 []) = true := by kernel_rfl
theorem Zw.r41 : leafNext (fK (Tryz.Es Tryz.m4 (syOf Zw.t41)) 100000 100000 Zw.p0 (Zw.d41.st 8 []) 1) 8 Zw.d42 [(10, 10), (11, 11), (12, 12), (13, 13), (14, 14), (15, 15), (16, 16), (17, 17), (18, 18), (19, 196)] [(ch 1000), (ch 1001), (ch 1004)] = some Zw.p0 := by kernel_rfl
noncomputable def Zw.t45 : List SE := ncL [⟨.bin .add, (.int .i64 90), (ch 1000), (ch 1003)⟩,
  ⟨.bin .lss, (.int .i64 44), (ch 1003), (.bool true)⟩,
  ⟨.bin .add, (ch 1002), (ch 1001), (ch 1004)⟩,
  ⟨.bin .mul, (ch 1001), (.int .i64 45), (ch 1005)⟩,
  ⟨.bin .neq, (ch 1004), (ch 1005), (.bool false)⟩]
theorem Zw.i45 : Zw.d45.sub 8 [] (idl 8 Zw.d45.objs) (idA 3) (Zw.d45.st 8 []) = true := by kernel_rfl
theorem Zw.r45 : leafNext (fK (Tryz.Es Tryz.m4 (syOf Zw.t45)) 100000 100000 Zw.p0 (Zw.d45.st 8 []) 1) 8 Zw.d46 [(10, 10), (11, 11), (12, 12), (13, 13), (14, 14), (15, 15), (16, 16), (17, 17), (18, 18), (19, 196)] [(ch 1000), (ch 1001), (ch 1004)] = some Zw.p0 := by kernel_rfl
noncomputable def Zw.t49 : List SE := ncL [⟨.bin .add, (.int .i64 90), (ch 1000), (ch 1003)⟩,
  ⟨.bin .lss, (.int .i64 48), (ch 1003), (.bool true)⟩,
  ⟨.bin .add, (ch 1002), (ch 1001), (ch 1004)⟩,
  ⟨.bin .mul, (ch 1001), (.int .i64 49), (ch 1005)⟩,
  ⟨.bin .neq, (ch 1004), (ch 1005), (.bool false)⟩]
theorem Zw.i49 : Zw.d49.sub 8 [] (idl 8 Zw.d49.objs) (idA 3) (Zw.d49.st 8 []) = true := by kernel_rfl
theorem Zw.r49 : leafNext (fK (Tryz.Es Tryz.m4 (syOf Zw.t49)) 100000 100000 Zw.p0 (Zw.d49.st 8 []) 1) 8 Zw.d50 [(10, 10), (11, 11), (12, 12), (13, 13), (14, 14), (15, 15), (16, 16), (17, 17), (18, 18), (19, 196)] [(ch 1000), (ch 1001), (ch 1004)] = some Zw.p0 := by kernel_rfl
noncomputable def Zw.t53 : List SE := ncL [⟨.bin .add, (.int .i64 90), (ch 1000), (ch 1003)⟩,
  ⟨.bin .lss, (.int .i64 52), (ch 1003), (.bool true)⟩,
  ⟨.bin .add, (ch 1002), (ch 1001), (ch 1004)⟩,
  ⟨.bin .mul, (ch 1001), (.int .i64 53), (ch 1005)⟩,
  ⟨.bin .neq, (ch 1004), (ch 1005), (.bool false)⟩]
theorem Zw.i53 : Zw.d53.sub 8 [] (idl 8 Zw.d53.objs) (idA 3) (Zw.d53.st 8 []) = true := by kernel_rfl
theorem Zw.r53 : leafNext (fK (Tryz.Es Tryz.m4 (syOf Zw.t53)) 100000 100000 Zw.p0 (Zw.d53.st 8 []) 1) 8 Zw.d54 [(10, 10), (11, 11), (12, 12), (13, 13), (14, 14), (15, 15), (16, 16), (17, 17), (18, 18), (19, 196)] [(ch 1000), (ch 1001), (ch 1004)] = some Zw.p0 := by kernel_rfl
noncomputable def Zw.t57 : List SE := ncL [⟨.bin .add, (.int .i64 90), (ch 1000), (ch 1003)⟩,
  ⟨.bin .lss, (.int .i64 56), (ch 1003), (.bool true)⟩,
  ⟨.bin .add, (ch 1002), (ch 1001), (ch 1004)⟩,
  ⟨.bin .mul, (ch 1001), (.int .i64 57), (ch 1005)⟩,
  ⟨.bin .neq, (ch 1004), (ch 1005), (.bool false)⟩]
theorem Zw.i57 : Zw.d57.sub 8 [] (idl 8 Zw.d57.objs) (idA 3) (Zw.d57.st 8 []) = true := by kernel_rfl
theorem Zw.r57 : leafNext (fK (Tryz.Es Tryz.m4 (syOf Zw.t57)) 100000 100000 Zw.p0 (Zw.d57.st 8 []) 1) 8 Zw.d58 [(10, 10), (11, 11), (12, 12), (13, 13), (14, 14), (15, 15), (16, 16), (17, 17), (18, 18), (19, 196)] [(ch 1000), (ch 1001), (ch 1004)] = some Zw.p0 := by kernel_rfl
noncomputable def Zw.t61 : List SE := ncL [⟨.bin .add, (.int .i64 90), (ch 1000), (ch 1003)⟩,
  ⟨.bin .lss, (.int .i64 60), (ch 1003), (.bool true)⟩,
  ⟨.bin .add, (ch 1002), (ch 1001), (ch 1004)⟩,
  ⟨.bin .mul, (ch 1001), (.int .i64 61), (ch 1005)⟩,
  ⟨.bin .neq, (ch 1004), (ch 1005), (.bool false)⟩]
theorem Zw.i61 : Zw.d61.sub 8 [] (idl 8 Zw.d61.objs) (idA 3) (Zw.d61.st 8 []) = true := by kernel_rfl
theorem Zw.r61 : leafNext (fK (Tryz.Es Tryz.m4 (syOf Zw.t61)) 100000 100000 Zw.p0 (Zw.d61.st 8 []) 1) 8 Zw.d62 [(10, 10), (11, 11), (12, 12), (13, 13), (14, 14), (15, 15), (16, 16), (17, 17), (18, 18), (19, 196)] [(ch 1000), (ch 1001), (ch 1004)] = some Zw.p0 := by kernel_rfl
noncomputable def Zw.t65 : List SE := ncL [⟨.bin .add, (.int .i64 90), (ch 1000), (ch 1003)⟩,
  ⟨.bin .lss, (.int .i64 64), (ch 1003), (.bool true)⟩,
  ⟨.bin .add, (ch 1002), (ch 1001), (ch 1004)⟩,
  ⟨.bin .mul, (ch 1001), (.int .i64 65), (ch 1005)⟩,
  ⟨.bin .neq, (ch 1004), (ch 1005), (.bool false)⟩]
theorem Zw.i65 : Zw.d65.sub 8 [] (idl 8 Zw.d65.objs) (idA 3) (Zw.d65.st 8 []) = true := by kernel_rfl
theorem Zw.r65 : leafNext (fK (Tryz.Es Tryz.m4 (syOf Zw.t65)) 100000 100000 Zw.p0 (Zw.d65.st 8 []) 1) 8 Zw.d66 [(10, 10), (11, 11), (12, 12), (13, 13), (14, 14), (15, 15), (16, 16), (17, 17), (18, 18), (19, 196)] [(ch 1000), (ch 1001), (ch 1004)] = some Zw.p0 := by kernel_rfl
noncomputable def Zw.t69 : List SE := ncL [⟨.bin .add, (.int .i64 90), (ch 1000), (ch 1003)⟩,
  ⟨.bin .lss, (.int .i64 68), (ch 1003), (.bool true)⟩,
  ⟨.bin .add, (ch 1002), (ch 1001), (ch 1004)⟩,
  ⟨.bin .mul, (ch 1001), (.int .i64 69), (ch 1005)⟩,
  ⟨.bin .neq, (ch 1004), (ch 1005), (.bool false)⟩]
theorem Zw.i69 : Zw.d69.sub 8 [] (idl 8 Zw.d69.objs) (idA 3) (Zw.d69.st 8 []) = true := by kernel_rfl
theorem Zw.r69 : leafNext (fK (Tryz.Es Tryz.m4 (syOf Zw.t69)) 100000 100000 Zw.p0 (Zw.d69.st 8 []) 1) 8 Zw.d70 [(10, 10), (11, 11), (12, 12), (13, 13), (14, 14), (15, 15), (16, 16), (17, 17), (18, 18), (19, 196)] [(ch 1000), (ch 1001), (ch 1004)] = some Zw.p0 := by kernel_rfl
noncomputable def Zw.t73 : List SE := ncL [⟨.bin .add, (.int .i64 90), (ch 1000), (ch 1003)⟩,
  ⟨.bin .lss, (.int .i64 72), (ch 1003), (.bool true)⟩,
  ⟨.bin .add, (ch 1002), (ch 1001), (ch 1004)⟩,
  ⟨.bin .mul, (ch 1001), (.int .i64 73), (ch 1005)⟩,
  ⟨.bin .neq, (ch 1004), (ch 1005), (.bool false)⟩]
theorem Zw.i73 : Zw.d73.sub 8 [] (idl 8 Zw.d73.objs) (idA 3) (Zw.d73.st 8 []) = true := by kernel_rfl
theorem Zw.r73 : leafNext (fK (Tryz.Es Tryz.m4 (syOf Zw.t73)) 100000 100000 Zw.p0 (Zw.d73.st 8 []) 1) 8 Zw.d74 [(10, 10), (11, 11), (12, 12), (13, 13), (14, 14), (15, 15), (16, 16), (17, 17), (18, 18), (19, 196)] [(ch 1000), (ch 1001), (ch 1004)] = some Zw.p0 := by kernel_rfl
noncomputable def Zw.t77 : List SE := ncL [⟨.bin .add, (.int .i64 90), (ch 1000), (ch 1003)⟩,
  ⟨.bin .lss, (.int .i64 76), (ch 1003), (.bool true)⟩,
  ⟨.bin .add, (ch 1002), (ch 1001), (ch 1004)⟩,
  ⟨.bin .mul, (ch 1001), (.int .i64 77), (ch 1005)⟩,
  ⟨.bin .neq, (ch 1004), (ch 1005), (.bool false)⟩]
theorem Zw.i77 : Zw.d77.sub 8 [] (idl 8 Zw.d77.objs) (idA 3) (Zw.d77.st 8 []) = true := by kernel_rfl
theorem Zw.r77 : leafNext (fK (Tryz.Es Tryz.m4 (syOf Zw.t77)) 100000 100000 Zw.p0 (Zw.d77.st 8 []) 1) 8 Zw.d78 [(10, 10), (11, 11), (12, 12), (13, 13), (14, 14), (15, 15), (16, 16), (17, 17), (18, 18), (19, 196)] [(ch 1000), (ch 1001), (ch 1004)] = some Zw.p0 := by kernel_rfl
noncomputable def Zw.t81 : List SE := ncL [⟨.bin .add, (.int .i64 90), (ch 1000), (ch 1003)⟩,
  ⟨.bin .lss, (.int .i64 80), (ch 1003), (.bool true)⟩,
  ⟨.bin .add, (ch 1002), (ch 1001), (ch 1004)⟩,
  ⟨.bin .mul, (ch 1001), (.int .i64 81), (ch 1005)⟩,
  ⟨.bin .neq, (ch 1004), (ch 1005), (.bool false)⟩]
theorem Zw.i81 : Zw.d81.sub 8 [] (idl 8 Zw.d81.objs) (idA 3) (Zw.d81.st 8 []) = true := by kernel_rfl
theorem Zw.r81 : leafNext (fK (Tryz.Es Tryz.m4 (syOf Zw.t81)) 100000 100000 Zw.p0 (Zw.d81.st 8 []) 1) 8 Zw.d82 [(10, 10), (11, 11), (12, 12), (13, 13), (14, 14), (15, 15), (16, 16), (17, 17), (18, 18), (19, 196)] [(ch 1000), (ch 1001), (ch 1004)] = some Zw.p0 := by kernel_rfl
noncomputable def Zw.t85 : List SE := ncL [⟨.bin .add, (.int .i64 90), (ch 1000), (ch 1003)⟩,
  ⟨.bin .lss, (.int .i64 84), (ch 1003), (.bool true)⟩,
  ⟨.bin .add, (ch 1002), (ch 1001), (ch 1004)⟩,
  ⟨.bin .mul, (ch 1001), (.int .i64 85), (ch 1005)⟩,
  ⟨.bin .neq, (ch 1004), (ch 1005), (.bool false)⟩]
theorem Zw.i85 : Zw.d85.sub 8 [] (idl 8 Zw.d85.objs) (idA 3) (Zw.d85.st 8 []) = true := by kernel_rfl
theorem Zw.r85 : leafNext (fK (Tryz.Es Tryz.m4 (syOf Zw.t85)) 100000 100000 Zw.p0 (Zw.d85.st 8 []) 1) 8 Zw.d86 [(10, 10), (11, 11), (12, 12), (13, 13), (14, 14), (15, 15), (16, 16), (17, 17), (18, 18), (19, 196)] [(ch 1000), (ch 1001), (ch 1004)] = some Zw.p0 := by kernel_rfl
noncomputable def Zw.t89 : List SE := ncL [⟨.bin .add, (.int .i64 90), (ch 1000), (ch 1003)⟩,
  ⟨.bin .lss, (.int .i64 88), (ch 1003), (.bool true)⟩,
  ⟨.bin .add, (ch 1002), (ch 1001), (ch 1004)⟩,
  ⟨.bin .mul, (ch 1001), (.int .i64 89), (ch 1005)⟩,
  ⟨.bin .neq, (ch 1004), (ch 1005), (.bool false)⟩]
theorem Zw.i89 : Zw.d89.sub 8 [] (idl 8 Zw.d89.objs) (idA 3) (Zw.d89.st 8 []) = true := by kernel_rfl
theorem Zw.r89 : leafNext (fK (Tryz.Es Tryz.m4 (syOf Zw.t89)) 100000 100000 Zw.p0 (Zw.d89.st 8 []) 1) 8 Zw.d90 [(10, 10), (11, 11), (12, 12), (13, 13), (14, 14), (15, 15), (16, 16), (17, 17), (18, 18), (19, 196)] [(ch 1000), (ch 1001), (ch 1004)] = some Zw.p0 := by kernel_rfl
noncomputable def Zw.t93 : List SE := ncL [⟨.bin .add, (.int .i64 90), (ch 1000), (ch 1003)⟩,
  ⟨.bin .lss, (.int .i64 91), (ch 1003), (.bool true)⟩,
  ⟨.bin .add, (ch 1002), (ch 1001), (ch 1004)⟩,
  ⟨.bin .mul, (ch 1001), (.int .i64 92), (ch 1005)⟩,
  ⟨.bin .neq, (ch 1004), (ch 1005), (.bool false)⟩]
theorem Zw.i93 : Zw.d92.sub 8 [] (idl 8 Zw.d92.objs) (idA 3) (Zw.d92.st 8 []) = true := by kernel_rfl
theorem Zw.r93 : leafNext (fK (Tryz.Es Tryz.m4 (syOf Zw.t93)) 100000 100000 Zw.p0 (Zw.d92.st 8 []) 1) 8 Zw.d93 [(10, 10), (11, 11), (12, 12), (13, 13), (14, 14), (15, 15), (16, 16), (17, 17), (18, 18), (19, 196)] [(ch 1000), (ch 1001), (ch 1004)] = some Zw.p0 := by kernel_rfl
noncomputable def Zw.t97 : List SE := ncL [⟨.bin .add, (.int .i64 90), (ch 1000), (ch 1003)⟩,
  ⟨.bin .lss, (.int .i64 93), (ch 1003), (.bool true)⟩,
  ⟨.bin .add, (ch 1002), (ch 1001), (ch 1004)⟩,
  ⟨.bin .mul, (ch 1001), (.int .i64 94), (ch 1005)⟩,
  ⟨.bin .neq, (ch 1004), (ch 1005), (.bool false)⟩]
theorem Zw.i97 : Zw.d94.sub 8 [] (idl 8 Zw.d94.objs) (idA 3) (Zw.d94.st 8 []) = true := by kernel_rfl
theorem Zw.r97 : leafNext (fK (Tryz.Es Tryz.m4 (syOf Zw.t97)) 100000 100000 Zw.p0 (Zw.d94.st 8 []) 1) 8 Zw.d95 [(10, 10), (11, 11), (12, 12), (13, 13), (14, 14), (15, 15), (16, 16), (17, 17), (18, 18), (19, 196)] [(ch 1000), (ch 1001), (ch 1004)] = some Zw.p0 := by kernel_rfl
noncomputable def Zw.t101 : List SE := ncL [⟨.bin .add, (.int .i64 90), (ch 1000), (ch 1003)⟩,
  ⟨.bin .lss, (.int .i64 95), (ch 1003), (.bool true)⟩,
  ⟨.bin .add, (ch 1002), (ch 1001), (ch 1004)⟩,
  ⟨.bin .mul, (ch 1001), (.int .i64 96), (ch 1005)⟩,
  ⟨.bin .neq, (ch 1004), (ch 1005), (.bool false)⟩]
theorem Zw.i101 : Zw.d96.sub 8 [] (idl 8 Zw.d96.objs) (idA 3) (Zw.d96.st 8 []) = true := by kernel_rfl
theorem Zw.r101 : leafNext (fK (Tryz.Es Tryz.m4 (syOf Zw.t101)) 100000 100000 Zw.p0 (Zw.d96.st 8 []) 1) 8 Zw.d97 [(10, 10), (11, 11), (12, 12), (13, 13), (14, 14), (15, 15), (16, 16), (17, 17), (18, 18), (19, 196)] [(ch 1000), (ch 1001), (ch 1004)] = some Zw.p0 := by kernel_rfl
noncomputable def Zw.t105 : List SE := ncL [⟨.bin .add, (.int .i64 90), (ch 1000), (ch 1003)⟩,
  ⟨.bin .lss, (.int .i64 97), (ch 1003), (.bool true)⟩,
  ⟨.bin .add, (ch 1002), (ch 1001), (ch 1004)⟩,
  ⟨.bin .mul, (ch 1001), (.int .i64 98), (ch 1005)⟩,
  ⟨.bin .neq, (ch 1004), (ch 1005), (.bool false)⟩]
theorem Zw.i105 : Zw.d98.sub 8 [] (idl 8 Zw.d98.objs) (idA 3) (Zw.d98.st 8 []) = true := by kernel_rfl
theorem Zw.r105 : leafNext (fK (Tryz.Es Tryz.m4 (syOf Zw.t105)) 100000 100000 Zw.p0 (Zw.d98.st 8 []) 1) 8 Zw.d99 [(10, 10), (11, 11), (12, 12), (13, 13), (14, 14), (15, 15), (16, 16), (17, 17), (18, 18), (19, 196)] [(ch 1000), (ch 1001), (ch 1004)] = some Zw.p0 := by kernel_rfl
noncomputable def Zw.t109 : List SE := ncL [⟨.bin .add, (.int .i64 90), (ch 1000), (ch 1003)⟩,
  ⟨.bin .lss, (.int .i64 99), (ch 1003), (.bool true)⟩,
  ⟨.bin .add, (ch 1002), (ch 1001), (ch 1004)⟩,
  ⟨.bin .mul, (ch 1001), (.int .i64 100), (ch 1005)⟩,
  ⟨.bin .neq, (ch 1004), (ch 1005), (.bool false)⟩]
theorem Zw.i109 : Zw.d100.sub 8 [] (idl 8 Zw.d100.objs) (idA 3) (Zw.d100.st 8 []) = true := by kernel_rfl
theorem Zw.r109 : leafNext (fK (Tryz.Es Tryz.m4 (syOf Zw.t109)) 100000 100000 Zw.p0 (Zw.d100.st 8 []) 1) 8 Zw.d101 [(10, 10), (11, 11), (12, 12), (13, 13), (14, 14), (15, 15), (16, 16), (17, 17), (18, 18), (19, 196)] [(ch 1000), (ch 1001), (ch 1004)] = some Zw.p0 := by kernel_rfl
noncomputable def Zw.t113 : List SE := ncL [⟨.bin .add, (.int .i64 90), (ch 1000), (ch 1003)⟩,
  ⟨.bin .lss, (.int .i64 101), (ch 1003), (.bool false)⟩]
theorem Zw.i113 : Zw.d102.sub 8 [] (idl 8 Zw.d102.objs) (idA 3) (Zw.d102.st 8 []) = true := by kernel_rfl
theorem Zw.r113 : leafFin (Tryz.Es Tryz.m4 (syOf Zw.t113)) Tryz.f7 (fK (Tryz.Es Tryz.m4 (syOf Zw.t113)) 100000 100000 Zw.p0 (Zw.d102.st 8 []) 1) = true := by kernel_rfl
end
end Go.Proofs
