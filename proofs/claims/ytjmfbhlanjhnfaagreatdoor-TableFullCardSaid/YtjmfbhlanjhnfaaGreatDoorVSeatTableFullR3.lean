/- Pieces of the law's run, from node to node, answered by the executor. No conditions. -/
import Derived.Test.YtjmfbhlanjhnfaaGreatDoorVSeatTableFullNd
set_option linter.all false
namespace Go.Proofs
open Go Go.Vsx
set_option maxRecDepth 1000000
noncomputable section
noncomputable def Zw.t2 : List SE := ncL [⟨.bin .add, (.int .i64 90), (ch 1000), (ch 1003)⟩,
  ⟨.bin .lss, (.int .i64 1), (ch 1003), (.bool true)⟩,
  ⟨.bin .add, (ch 1002), (ch 1001), (ch 1004)⟩,
  ⟨.bin .mul, (ch 1001), (.int .i64 2), (ch 1005)⟩,
  ⟨.bin .neq, (ch 1004), (ch 1005), (.bool false)⟩]
theorem Zw.i2 : Zw.d2.sub 8 [] (idl 8 Zw.d2.objs) (idA 3) (Zw.d2.st 8 []) = true := by kernel_rfl
theorem Zw.r2 : leafNext (fK (Tryz.Es Tryz.m4 (syOf Zw.t2)) 100000 100000 Zw.p0 (Zw.d2.st 8 []) 1) 8 Zw.d3 [(10, 10), (11, 11), (12, 12), (13, 13), (14, 14), (15, 15), (16, 16), (17, 17), (18, 18), (19, 196)] [(ch 1000), (ch 1001), (ch 1004)] = some Zw.p0 := by kernel_rfl
noncomputable def Zw.t6 : List SE := ncL [⟨.bin .add, (.int .i64 90), (ch 1000), (ch 1003)⟩,
  ⟨.bin .lss, (.int .i64 5), (ch 1003), (.bool true)⟩,
  ⟨.bin .add, (ch 1002), (ch 1001), (ch 1004)⟩,
  ⟨.bin .mul, (ch 1001), (.int .i64 6), (ch 1005)⟩,
  ⟨.bin .neq, (ch 1004), (ch 1005), (.bool false)⟩]
theorem Zw.i6 : Zw.d6.sub 8 [] (idl 8 Zw.d6.objs) (idA 3) (Zw.d6.st 8 []) = true := by kernel_rfl
theorem Zw.r6 : leafNext (fK (Tryz.Es Tryz.m4 (syOf Zw.t6)) 100000 100000 Zw.p0 (Zw.d6.st 8 []) 1) 8 Zw.d7 [(10, 10), (11, 11), (12, 12), (13, 13), (14, 14), (15, 15), (16, 16), (17, 17), (18, 18), (19, 196)] [(ch 1000), (ch 1001), (ch 1004)] = some Zw.p0 := by kernel_rfl
noncomputable def Zw.t10 : List SE := ncL [⟨.bin .add, (.int .i64 90), (ch 1000), (ch 1003)⟩,
  ⟨.bin .lss, (.int .i64 9), (ch 1003), (.bool true)⟩,
  ⟨.bin .add, (ch 1002), (ch 1001), (ch 1004)⟩,
  ⟨.bin .mul, (ch 1001), (.int .i64 10), (ch 1005)⟩,
  ⟨.bin .neq, (ch 1004), (ch 1005), (.bool false)⟩]
theorem Zw.i10 : Zw.d10.sub 8 [] (idl 8 Zw.d10.objs) (idA 3) (Zw.d10.st 8 []) = true := by kernel_rfl
theorem Zw.r10 : leafNext (fK (Tryz.Es Tryz.m4 (syOf Zw.t10)) 100000 100000 Zw.p0 (Zw.d10.st 8 []) 1) 8 Zw.d11 [(10, 10), (11, 11), (12, 12), (13, 13), (14, 14), (15, 15), (16, 16), (17, 17), (18, 18), (19, 196)] [(ch 1000), (ch 1001), (ch 1004)] = some Zw.p0 := by kernel_rfl
noncomputable def Zw.t14 : List SE := ncL [⟨.bin .add, (.int .i64 90), (ch 1000), (ch 1003)⟩,
  ⟨.bin .lss, (.int .i64 13), (ch 1003), (.bool true)⟩,
  ⟨.bin .add, (ch 1002), (ch 1001), (ch 1004)⟩,
  ⟨.bin .mul, (ch 1001), (.int .i64 14), (ch 1005)⟩,
  ⟨.bin .neq, (ch 1004), (ch 1005), (.bool false)⟩]
theorem Zw.i14 : Zw.d14.sub 8 [] (idl 8 Zw.d14.objs) (idA 3) (Zw.d14.st 8 []) = true := by kernel_rfl
theorem Zw.r14 : leafNext (fK (Tryz.Es Tryz.m4 (syOf Zw.t14)) 100000 100000 Zw.p0 (Zw.d14.st 8 []) 1) 8 Zw.d15 [(10, 10), (11, 11), (12, 12), (13, 13), (14, 14), (15, 15), (16, 16), (17, 17), (18, 18), (19, 196)] [(ch 1000), (ch 1001), (ch 1004)] = some Zw.p0 := by kernel_rfl
noncomputable def Zw.t18 : List SE := ncL [⟨.bin .add, (.int .i64 90), (ch 1000), (ch 1003)⟩,
  ⟨.bin .lss, (.int .i64 17), (ch 1003), (.bool true)⟩,
  ⟨.bin .add, (ch 1002), (ch 1001), (ch 1004)⟩,
  ⟨.bin .mul, (ch 1001), (.int .i64 18), (ch 1005)⟩,
  ⟨.bin .neq, (ch 1004), (ch 1005), (.bool false)⟩]
theorem Zw.i18 : Zw.d18.sub 8 [] (idl 8 Zw.d18.objs) (idA 3) (Zw.d18.st 8 []) = true := by kernel_rfl
theorem Zw.r18 : leafNext (fK (Tryz.Es Tryz.m4 (syOf Zw.t18)) 100000 100000 Zw.p0 (Zw.d18.st 8 []) 1) 8 Zw.d19 [(10, 10), (11, 11), (12, 12), (13, 13), (14, 14), (15, 15), (16, 16), (17, 17), (18, 18), (19, 196)] [(ch 1000), (ch 1001), (ch 1004)] = some Zw.p0 := by kernel_rfl
noncomputable def Zw.t22 : List SE := ncL [⟨.bin .add, (.int .i64 90), (ch 1000), (ch 1003)⟩,
  ⟨.bin .lss, (.int .i64 21), (ch 1003), (.bool true)⟩,
  ⟨.bin .add, (ch 1002), (ch 1001), (ch 1004)⟩,
  ⟨.bin .mul, (ch 1001), (.int .i64 22), (ch 1005)⟩,
  ⟨.bin .neq, (ch 1004), (ch 1005), (.bool false)⟩]
theorem Zw.i22 : Zw.d22.sub 8 [] (idl 8 Zw.d22.objs) (idA 3) (Zw.d22.st 8 []) = true := by kernel_rfl
theorem Zw.r22 : leafNext (fK (Tryz.Es Tryz.m4 (syOf Zw.t22)) 100000 100000 Zw.p0 (Zw.d22.st 8 []) 1) 8 Zw.d23 [(10, 10), (11, 11), (12, 12), (13, 13), (14, 14), (15, 15), (16, 16), (17, 17), (18, 18), (19, 196)] [(ch 1000), (ch 1001), (ch 1004)] = some Zw.p0 := by kernel_rfl
noncomputable def Zw.t26 : List SE := ncL [⟨.bin .add, (.int .i64 90), (ch 1000), (ch 1003)⟩,
  ⟨.bin .lss, (.int .i64 25), (ch 1003), (.bool true)⟩,
  ⟨.bin .add, (ch 1002), (ch 1001), (ch 1004)⟩,
  ⟨.bin .mul, (ch 1001), (.int .i64 26), (ch 1005)⟩,
  ⟨.bin .neq, (ch 1004), (ch 1005), (.bool false)⟩]
theorem Zw.i26 : Zw.d26.sub 8 [] (idl 8 Zw.d26.objs) (idA 3) (Zw.d26.st 8 []) = true := by kernel_rfl
theorem Zw.r26 : leafNext (fK (Tryz.Es Tryz.m4 (syOf Zw.t26)) 100000 100000 Zw.p0 (Zw.d26.st 8 []) 1) 8 Zw.d27 [(10, 10), (11, 11), (12, 12), (13, 13), (14, 14), (15, 15), (16, 16), (17, 17), (18, 18), (19, 196)] [(ch 1000), (ch 1001), (ch 1004)] = some Zw.p0 := by kernel_rfl
noncomputable def Zw.t30 : List SE := ncL [⟨.bin .add, (.int .i64 90), (ch 1000), (ch 1003)⟩,
  ⟨.bin .lss, (.int .i64 29), (ch 1003), (.bool true)⟩,
  ⟨.bin .add, (ch 1002), (ch 1001), (ch 1004)⟩,
  ⟨.bin .mul, (ch 1001), (.int .i64 30), (ch 1005)⟩,
  ⟨.bin .neq, (ch 1004), (ch 1005), (.bool false)⟩]
theorem Zw.i30 : Zw.d30.sub 8 [] (idl 8 Zw.d30.objs) (idA 3) (Zw.d30.st 8 []) = true := by kernel_rfl
theorem Zw.r30 : leafNext (fK (Tryz.Es Tryz.m4 (syOf Zw.t30)) 100000 100000 Zw.p0 (Zw.d30.st 8 []) 1) 8 Zw.d31 [(10, 10), (11, 11), (12, 12), (13, 13), (14, 14), (15, 15), (16, 16), (17, 17), (18, 18), (19, 196)] [(ch 1000), (ch 1001), (ch 1004)] = some Zw.p0 := by kernel_rfl
noncomputable def Zw.t34 : List SE := ncL [⟨.bin .add, (.int .i64 90), (ch 1000), (ch 1003)⟩,
  ⟨.bin .lss, (.int .i64 33), (ch 1003), (.bool true)⟩,
  ⟨.bin .add, (ch 1002), (ch 1001), (ch 1004)⟩,
  ⟨.bin .mul, (ch 1001), (.int .i64 34), (ch 1005)⟩,
  ⟨.bin .neq, (ch 1004), (ch 1005), (.bool false)⟩]
theorem Zw.i34 : Zw.d34.sub 8 [] (idl 8 Zw.d34.objs) (idA 3) (Zw.d34.st 8 []) = true := by kernel_rfl
theorem Zw.r34 : leafNext (fK (Tryz.Es Tryz.m4 (syOf Zw.t34)) 100000 100000 Zw.p0 (Zw.d34.st 8 []) 1) 8 Zw.d35 [(10, 10), (11, 11), (12, 12), (13, 13), (14, 14), (15, 15), (16, 16), (17, 17), (18, 18), (19, 196)] [(ch 1000), (ch 1001), (ch 1004)] = some Zw.p0 := by kernel_rfl
noncomputable def Zw.t38 : List SE := ncL [⟨.bin .add, (.int .i64 90), (ch 1000), (ch 1003)⟩,
  ⟨.bin .lss, (.int .i64 37), (ch 1003), (.bool true)⟩,
  ⟨.bin .add, (ch 1002), (ch 1001), (ch 1004)⟩,
  ⟨.bin .mul, (ch 1001), (.int .i64 38), (ch 1005)⟩,
  ⟨.bin .neq, (ch 1004), (ch 1005), (.bool false)⟩]
theorem Zw.i38 : Zw.d38.sub 8 [] (idl 8 Zw.d38.objs) (idA 3) (Zw.d38.st 8 []) = true := by kernel_rfl
theorem Zw.r38 : leafNext (fK (Tryz.Es Tryz.m4 (syOf Zw.t38)) 100000 100000 Zw.p0 (Zw.d38.st 8 []) 1) 8 Zw.d39 [(10, 10), (11, 11), (12, 12), (13, 13), (14, 14), (15, 15), (16, 16), (17, 17), (18, 18), (19, 196)] [(ch 1000), (ch 1001), (ch 1004)] = some Zw.p0 := by kernel_rfl
noncomputable def Zw.t42 : List SE := ncL [⟨.bin .add, (.int .i64 90), (ch 1000), (ch 1003)⟩,
  ⟨.bin .lss, (.int .i64 41), (ch 1003), (.bool true)⟩,
  ⟨.bin .add, (ch 1002), (ch 1001), (ch 1004)⟩,
  ⟨.bin .mul, (ch 1001), (.int .i64 42), (ch 1005)⟩,
  ⟨.bin .neq, (ch 1004), (ch 1005), (.bool false)⟩]
theorem Zw.i42 : Zw.d42.sub 8 [] (idl 8 Zw.d42.objs) (idA 3) (Zw.d42.st 8 []) = true := by kernel_rfl
theorem Zw.r42 : leafNext (fK (Tryz.Es Tryz.m4 (syOf Zw.t42)) 100000 100000 Zw.p0 (Zw.d42.st 8 []) 1) 8 Zw.d43 [(10, 10), (11, 11), (12, 12), (13, 13), (14, 14), (15, 15), (16, 16), (17, 17), (18, 18), (19, 196)] [(ch 1000), (ch 1001), (ch 1004)] = some Zw.p0 := by kernel_rfl
noncomputable def Zw.t46 : List SE := ncL [⟨.bin .add, (.int .i64 90), (ch 1000), (ch 1003)⟩,
  ⟨.bin .lss, (.int .i64 45), (ch 1003), (.bool true)⟩,
  ⟨.bin .add, (ch 1002), (ch 1001), (ch 1004)⟩,
  ⟨.bin .mul, (ch 1001), (.int .i64 46), (ch 1005)⟩,
  ⟨.bin .neq, (ch 1004), (ch 1005), (.bool false)⟩]
theorem Zw.i46 : Zw.d46.sub 8 [] (idl 8 Zw.d46.objs) (idA 3) (Zw.d46.st 8 []) = true := by kernel_rfl
theorem Zw.r46 : leafNext (fK (Tryz.Es Tryz.m4 (syOf Zw.t46)) 100000 100000 Zw.p0 (Zw.d46.st 8 []) 1) 8 Zw.d47 [(10, 10), (11, 11), (12, 12), (13, 13), (14, 14), (15, 15), (16, 16), (17, 17), (18, 18), (19, 196)] [(ch 1000), (ch 1001), (ch 1004)] = some Zw.p0 := by kernel_rfl
noncomputable def Zw.t50 : List SE := ncL [⟨.bin .add, (.int .i64 90), (ch 1000), (ch 1003)⟩,
  ⟨.bin .lss, (.int .i64 49), (ch 1003), (.bool true)⟩,
  ⟨.bin .add, (ch 1002), (ch 1001), (ch 1004)⟩,
  ⟨.bin .mul, (ch 1001), (.int .i64 50), (ch 1005)⟩,
  ⟨.bin .neq, (ch 1004), (ch 1005), (.bool false)⟩]
theorem Zw.i50 : Zw.d50.sub 8 [] (idl 8 Zw.d50.objs) (idA 3) (Zw.d50.st 8 []) = true := by kernel_rfl
theorem Zw.r50 : leafNext (fK (Tryz.Es Tryz.m4 (syOf Zw.t50)) 100000 100000 Zw.p0 (Zw.d50.st 8 []) 1) 8 Zw.d51 [(10, 10), (11, 11), (12, 12), (13, 13), (14, 14), (15, 15), (16, 16), (17, 17), (18, 18), (19, 196)] [(ch 1000), (ch 1001), (ch 1004)] = some Zw.p0 := by kernel_rfl
noncomputable def Zw.t54 : List SE := ncL [⟨.bin .add, (.int .i64 90), (ch 1000), (ch 1003)⟩,
  ⟨.bin .lss, (.int .i64 53), (ch 1003), (.bool true)⟩,
  ⟨.bin .add, (ch 1002), (ch 1001), (ch 1004)⟩,
  ⟨.bin .mul, (ch 1001), (.int .i64 54), (ch 1005)⟩,
  ⟨.bin .neq, (ch 1004), (ch 1005), (.bool false)⟩]
theorem Zw.i54 : Zw.d54.sub 8 [] (idl 8 Zw.d54.objs) (idA 3) (Zw.d54.st 8 []) = true := by kernel_rfl
theorem Zw.r54 : leafNext (fK (Tryz.Es Tryz.m4 (syOf Zw.t54)) 100000 100000 Zw.p0 (Zw.d54.st 8 []) 1) 8 Zw.d55 [(10, 10), (11, 11), (12, 12), (13, 13), (14, 14), (15, 15), (16, 16), (17, 17), (18, 18), (19, 196)] [(ch 1000), (ch 1001), (ch 1004)] = some Zw.p0 := by kernel_rfl
noncomputable def Zw.t58 : List SE := ncL [⟨.bin .add, (.int .i64 90), (ch 1000), (ch 1003)⟩,
  ⟨.bin .lss, (.int .i64 57), (ch 1003), (.bool true)⟩,
  ⟨.bin .add, (ch 1002), (ch 1001), (ch 1004)⟩,
  ⟨.bin .mul, (ch 1001), (.int .i64 58), (ch 1005)⟩,
  ⟨.bin .neq, (ch 1004), (ch 1005), (.bool false)⟩]
theorem Zw.i58 : Zw.d58.sub 8 [] (idl 8 Zw.d58.objs) (idA 3) (Zw.d58.st 8 []) = true := by kernel_rfl
theorem Zw.r58 : leafNext (fK (Tryz.Es Tryz.m4 (syOf Zw.t58)) 100000 100000 Zw.p0 (Zw.d58.st 8 []) 1) 8 Zw.d59 [(10, 10), (11, 11), (12, 12), (13, 13), (14, 14), (15, 15), (16, 16), (17, 17), (18, 18), (19, 196)] [(ch 1000), (ch 1001), (ch 1004)] = some Zw.p0 := by kernel_rfl
noncomputable def Zw.t62 : List SE := ncL [⟨.bin .add, (.int .i64 90), (ch 1000), (ch 1003)⟩,
  ⟨.bin .lss, (.int .i64 61), (ch 1003), (.bool true)⟩,
  ⟨.bin .add, (ch 1002), (ch 1001), (ch 1004)⟩,
  ⟨.bin .mul, (ch 1001), (.int .i64 62), (ch 1005)⟩,
  ⟨.bin .neq, (ch 1004), (ch 1005), (.bool false)⟩]
theorem Zw.i62 : Zw.d62.sub 8 [] (idl 8 Zw.d62.objs) (idA 3) (Zw.d62.st 8 []) = true := by kernel_rfl
theorem Zw.r62 : leafNext (fK (Tryz.Es Tryz.m4 (syOf Zw.t62)) 100000 100000 Zw.p0 (Zw.d62.st 8 []) 1) 8 Zw.d63 [(10, 10), (11, 11), (12, 12), (13, 13), (14, 14), (15, 15), (16, 16), (17, 17), (18, 18), (19, 196)] [(ch 1000), (ch 1001), (ch 1004)] = some Zw.p0 := by kernel_rfl
noncomputable def Zw.t66 : List SE := ncL [⟨.bin .add, (.int .i64 90), (ch 1000), (ch 1003)⟩,
  ⟨.bin .lss, (.int .i64 65), (ch 1003), (.bool true)⟩,
  ⟨.bin .add, (ch 1002), (ch 1001), (ch 1004)⟩,
  ⟨.bin .mul, (ch 1001), (.int .i64 66), (ch 1005)⟩,
  ⟨.bin .neq, (ch 1004), (ch 1005), (.bool false)⟩]
theorem Zw.i66 : Zw.d66.sub 8 [] (idl 8 Zw.d66.objs) (idA 3) (Zw.d66.st 8 []) = true := by kernel_rfl
theorem Zw.r66 : leafNext (fK (Tryz.Es Tryz.m4 (syOf Zw.t66)) 100000 100000 Zw.p0 (Zw.d66.st 8 []) 1) 8 Zw.d67 [(10, 10), (11, 11), (12, 12), (13, 13), (14, 14), (15, 15), (16, 16), (17, 17), (18, 18), (19, 196)] [(ch 1000), (ch 1001), (ch 1004)] = some Zw.p0 := by kernel_rfl
noncomputable def Zw.t70 : List SE := ncL [⟨.bin .add, (.int .i64 90), (ch 1000), (ch 1003)⟩,
  ⟨.bin .lss, (.int .i64 69), (ch 1003), (.bool true)⟩,
  ⟨.bin .add, (ch 1002), (ch 1001), (ch 1004)⟩,
  ⟨.bin .mul, (ch 1001), (.int .i64 70), (ch 1005)⟩,
  ⟨.bin .neq, (ch 1004), (ch 1005), (.bool false)⟩]
theorem Zw.i70 : Zw.d70.sub 8 [] (idl 8 Zw.d70.objs) (idA 3) (Zw.d70.st 8 []) = true := by kernel_rfl
theorem Zw.r70 : leafNext (fK (Tryz.Es Tryz.m4 (syOf Zw.t70)) 100000 100000 Zw.p0 (Zw.d70.st 8 []) 1) 8 Zw.d71 [(10, 10), (11, 11), (12, 12), (13, 13), (14, 14), (15, 15), (16, 16), (17, 17), (18, 18), (19, 196)] [(ch 1000), (ch 1001), (ch 1004)] = some Zw.p0 := by kernel_rfl
noncomputable def Zw.t74 : List SE := ncL [⟨.bin .add, (.int .i64 90), (ch 1000), (ch 1003)⟩,
  ⟨.bin .lss, (.int .i64 73), (ch 1003), (.bool true)⟩,
  ⟨.bin .add, (ch 1002), (ch 1001), (ch 1004)⟩,
  ⟨.bin .mul, (ch 1001), (.int .i64 74), (ch 1005)⟩,
  ⟨.bin .neq, (ch 1004), (ch 1005), (.bool false)⟩]
theorem Zw.i74 : Zw.d74.sub 8 [] (idl 8 Zw.d74.objs) (idA 3) (Zw.d74.st 8 []) = true := by kernel_rfl
theorem Zw.r74 : leafNext (fK (Tryz.Es Tryz.m4 (syOf Zw.t74)) 100000 100000 Zw.p0 (Zw.d74.st 8 []) 1) 8 Zw.d75 [(10, 10), (11, 11), (12, 12), (13, 13), (14, 14), (15, 15), (16, 16), (17, 17), (18, 18), (19, 196)] [(ch 1000), (ch 1001), (ch 1004)] = some Zw.p0 := by kernel_rfl
noncomputable def Zw.t78 : List SE := ncL [⟨.bin .add, (.int .i64 90), (ch 1000), (ch 1003)⟩,
  ⟨.bin .lss, (.int .i64 77), (ch 1003), (.bool true)⟩,
  ⟨.bin .add, (ch 1002), (ch 1001), (ch 1004)⟩,
  ⟨.bin .mul, (ch 1001), (.int .i64 78), (ch 1005)⟩,
  ⟨.bin .neq, (ch 1004), (ch 1005), (.bool false)⟩]
theorem Zw.i78 : Zw.d78.sub 8 [] (idl 8 Zw.d78.objs) (idA 3) (Zw.d78.st 8 []) = true := by kernel_rfl
theorem Zw.r78 : leafNext (fK (Tryz.Es Tryz.m4 (syOf Zw.t78)) 100000 100000 Zw.p0 (Zw.d78.st 8 []) 1) 8 Zw.d79 [(10, 10), (11, 11), (12, 12), (13, 13), (14, 14), (15, 15), (16, 16), (17, 17), (18, 18), (19, 196)] [(ch 1000), (ch 1001), (ch 1004)] = some Zw.p0 := by kernel_rfl
noncomputable def Zw.t82 : List SE := ncL [⟨.bin .add, (.int .i64 90), (ch 1000), (ch 1003)⟩,
  ⟨.bin .lss, (.int .i64 81), (ch 1003), (.bool true)⟩,
  ⟨.bin .add, (ch 1002), (ch 1001), (ch 1004)⟩,
  ⟨.bin .mul, (ch 1001), (.int .i64 82), (ch 1005)⟩,
  ⟨.bin .neq, (ch 1004), (ch 1005), (.bool false)⟩]
theorem Zw.i82 : Zw.d82.sub 8 [] (idl 8 Zw.d82.objs) (idA 3) (Zw.d82.st 8 []) = true := by kernel_rfl
theorem Zw.r82 : leafNext (fK (Tryz.Es Tryz.m4 (syOf Zw.t82)) 100000 100000 Zw.p0 (Zw.d82.st 8 []) 1) 8 Zw.d83 [(10, 10), (11, 11), (12, 12), (13, 13), (14, 14), (15, 15), (16, 16), (17, 17), (18, 18), (19, 196)] [(ch 1000), (ch 1001), (ch 1004)] = some Zw.p0 := by kernel_rfl
noncomputable def Zw.t86 : List SE := ncL [⟨.bin .add, (.int .i64 90), (ch 1000), (ch 1003)⟩,
  ⟨.bin .lss, (.int .i64 85), (ch 1003), (.bool true)⟩,
  ⟨.bin .add, (ch 1002), (ch 1001), (ch 1004)⟩,
  ⟨.bin .mul, (ch 1001), (.int .i64 86), (ch 1005)⟩,
  ⟨.bin .neq, (ch 1004), (ch 1005), (.bool false)⟩]
theorem Zw.i86 : Zw.d86.sub 8 [] (idl 8 Zw.d86.objs) (idA 3) (Zw.d86.st 8 []) = true := by kernel_rfl
theorem Zw.r86 : leafNext (fK (Tryz.Es Tryz.m4 (syOf Zw.t86)) 100000 100000 Zw.p0 (Zw.d86.st 8 []) 1) 8 Zw.d87 [(10, 10), (11, 11), (12, 12), (13, 13), (14, 14), (15, 15), (16, 16), (17, 17), (18, 18), (19, 196)] [(ch 1000), (ch 1001), (ch 1004)] = some Zw.p0 := by kernel_rfl
noncomputable def Zw.t90 : List SE := ncL [⟨.bin .add, (.int .i64 90), (ch 1000), (ch 1003)⟩,
  ⟨.bin .lss, (.int .i64 89), (ch 1003), (.bool true)⟩,
  ⟨.bin .add, (ch 1002), (ch 1001), (ch 1004)⟩,
  ⟨.bin .mul, (ch 1001), (.int .i64 90), (ch 1005)⟩,
  ⟨.bin .neq, (ch 1004), (ch 1005), (.bool false)⟩]
theorem Zw.i90 : Zw.d90.sub 8 [] (idl 8 Zw.d90.objs) (idA 3) (Zw.d90.st 8 []) = true := by kernel_rfl
theorem Zw.r90 : leafNext (fK (Tryz.Es Tryz.m4 (syOf Zw.t90)) 100000 100000 Zw.p0 (Zw.d90.st 8 []) 1) 8 Zw.d91 [(10, 10), (11, 11), (12, 12), (13, 13), (14, 14), (15, 15), (16, 16), (17, 17), (18, 18), (19, 196)] [(ch 1000), (ch 1001), (ch 1004)] = some Zw.p0 := by kernel_rfl
noncomputable def Zw.t94 : List SE := ncL [⟨.bin .add, (.int .i64 90), (ch 1000), (ch 1003)⟩,
  ⟨.bin .lss, (.int .i64 91), (ch 1003), (.bool false)⟩]
theorem Zw.i94 : Zw.d92.sub 8 [] (idl 8 Zw.d92.objs) (idA 3) (Zw.d92.st 8 []) = true := by kernel_rfl
theorem Zw.r94 : leafFin (Tryz.Es Tryz.m4 (syOf Zw.t94)) Tryz.f7 (fK (Tryz.Es Tryz.m4 (syOf Zw.t94)) 100000 100000 Zw.p0 (Zw.d92.st 8 []) 1) = true := by kernel_rfl
noncomputable def Zw.t98 : List SE := ncL [⟨.bin .add, (.int .i64 90), (ch 1000), (ch 1003)⟩,
  ⟨.bin .lss, (.int .i64 93), (ch 1003), (.bool false)⟩]
theorem Zw.i98 : Zw.d94.sub 8 [] (idl 8 Zw.d94.objs) (idA 3) (Zw.d94.st 8 []) = true := by kernel_rfl
theorem Zw.r98 : leafFin (Tryz.Es Tryz.m4 (syOf Zw.t98)) Tryz.f7 (fK (Tryz.Es Tryz.m4 (syOf Zw.t98)) 100000 100000 Zw.p0 (Zw.d94.st 8 []) 1) = true := by kernel_rfl
noncomputable def Zw.t102 : List SE := ncL [⟨.bin .add, (.int .i64 90), (ch 1000), (ch 1003)⟩,
  ⟨.bin .lss, (.int .i64 95), (ch 1003), (.bool false)⟩]
theorem Zw.i102 : Zw.d96.sub 8 [] (idl 8 Zw.d96.objs) (idA 3) (Zw.d96.st 8 []) = true := by kernel_rfl
theorem Zw.r102 : leafFin (Tryz.Es Tryz.m4 (syOf Zw.t102)) Tryz.f7 (fK (Tryz.Es Tryz.m4 (syOf Zw.t102)) 100000 100000 Zw.p0 (Zw.d96.st 8 []) 1) = true := by kernel_rfl
noncomputable def Zw.t106 : List SE := ncL [⟨.bin .add, (.int .i64 90), (ch 1000), (ch 1003)⟩,
  ⟨.bin .lss, (.int .i64 97), (ch 1003), (.bool false)⟩]
theorem Zw.i106 : Zw.d98.sub 8 [] (idl 8 Zw.d98.objs) (idA 3) (Zw.d98.st 8 []) = true := by kernel_rfl
theorem Zw.r106 : leafFin (Tryz.Es Tryz.m4 (syOf Zw.t106)) Tryz.f7 (fK (Tryz.Es Tryz.m4 (syOf Zw.t106)) 100000 100000 Zw.p0 (Zw.d98.st 8 []) 1) = true := by kernel_rfl
noncomputable def Zw.t110 : List SE := ncL [⟨.bin .add, (.int .i64 90), (ch 1000), (ch 1003)⟩,
  ⟨.bin .lss, (.int .i64 99), (ch 1003), (.bool false)⟩]
theorem Zw.i110 : Zw.d100.sub 8 [] (idl 8 Zw.d100.objs) (idA 3) (Zw.d100.st 8 []) = true := by kernel_rfl
theorem Zw.r110 : leafFin (Tryz.Es Tryz.m4 (syOf Zw.t110)) Tryz.f7 (fK (Tryz.Es Tryz.m4 (syOf Zw.t110)) 100000 100000 Zw.p0 (Zw.d100.st 8 []) 1) = true := by kernel_rfl
end
end Go.Proofs
