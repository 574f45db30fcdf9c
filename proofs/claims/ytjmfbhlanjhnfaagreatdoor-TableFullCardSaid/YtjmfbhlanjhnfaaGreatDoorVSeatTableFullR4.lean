/- Pieces of the law's run, from node to node, answered by the executor. No conditions. -/
import Derived.Test.YtjmfbhlanjhnfaaGreatDoorVSeatTableFullNd
set_option linter.all false
namespace Go.Proofs
open Go Go.Vsx
set_option maxRecDepth 1000000
noncomputable section
noncomputable def Zw.t3 : List SE := ncL [⟨.bin .add, (.int .i64 90), (ch 1000), (ch 1003)⟩,
  ⟨.bin .lss, (.int .i64 2), (ch 1003), (.bool true)⟩,
  ⟨.bin .add, (ch 1002), (ch 1001), (ch 1004)⟩,
  ⟨.bin .mul, (ch 1001), (.int .i64 3), (ch 1005)⟩,
  ⟨.bin .neq, (ch 1004), (ch 1005), (.bool false)⟩]
theorem Zw.i3 : Zw.d3.sub 8 [] (idl 8 Zw.d3.objs) (idA 3) (Zw.d3.st 8 []) = true := by kernel_rfl
theorem Zw.r3 : leafNext (fK (Tryz.Es Tryz.m4 (syOf Zw.t3)) 100000 100000 Zw.p0 (Zw.d3.st 8 []) 1) 8 Zw.d4 [(10, 10), (11, 11), (12, 12), (13, 13), (14, 14), (15, 15), (16, 16), (17, 17), (18, 18), (19, 196)] [(ch 1000), (ch 1001), (ch 1004)] = some Zw.p0 := by kernel_rfl
noncomputable def Zw.t7 : List SE := ncL [⟨.bin .add, (.int .i64 90), (ch 1000), (ch 1003)⟩,
  ⟨.bin .lss, (.int .i64 6), (ch 1003), (.bool true)⟩,
  ⟨.bin .add, (ch 1002), (ch 1001), (ch 1004)⟩,
  ⟨.bin .mul, (ch 1001), (.int .i64 7), (ch 1005)⟩,
  ⟨.bin .neq, (ch 1004), (ch 1005), (.bool false)⟩]
theorem Zw.i7 : Zw.d7.sub 8 [] (idl 8 Zw.d7.objs) (idA 3) (Zw.d7.st 8 []) = true := by kernel_rfl
theorem Zw.r7 : leafNext (fK (Tryz.Es Tryz.m4 (syOf Zw.t7)) 100000 100000 Zw.p0 (Zw.d7.st 8 []) 1) 8 Zw.d8 [(10, 10), (11, 11), (12, 12), (13, 13), (14, 14), (15, 15), (16, 16), (17, 17), (18, 18), (19, 196)] [(ch 1000), (ch 1001), (ch 1004)] = some Zw.p0 := by kernel_rfl
noncomputable def Zw.t11 : List SE := ncL [⟨.bin .add, (.int .i64 90), (ch 1000), (ch 1003)⟩,
  ⟨.bin .lss, (.int .i64 10), (ch 1003), (.bool true)⟩,
  ⟨.bin .add, (ch 1002), (ch 1001), (ch 1004)⟩,
  ⟨.bin .mul, (ch 1001), (.int .i64 11), (ch 1005)⟩,
  ⟨.bin .neq, (ch 1004), (ch 1005), (.bool false)⟩]
theorem Zw.i11 : Zw.d11.sub 8 [] (idl 8 Zw.d11.objs) (idA 3) (Zw.d11.st 8 []) = true := by kernel_rfl
theorem Zw.r11 : leafNext (fK (Tryz.Es Tryz.m4 (syOf Zw.t11)) 100000 100000 Zw.p0 (Zw.d11.st 8 []) 1) 8 Zw.d12 [(10, 10), (11, 11), (12, 12), (13, 13), (14, 14), (15, 15), (16, 16), (17, 17), (18, 18), (19, 196)] [(ch 1000), (ch 1001), (ch 1004)] = some Zw.p0 := by kernel_rfl
noncomputable def Zw.t15 : List SE := ncL [⟨.bin .add, (.int .i64 90), (ch 1000), (ch 1003)⟩,
  ⟨.bin .lss, (.int .i64 14), (ch 1003), (.bool true)⟩,
  ⟨.bin .add, (ch 1002), (ch 1001), (ch 1004)⟩,
  ⟨.bin .mul, (ch 1001), (.int .i64 15), (ch 1005)⟩,
  ⟨.bin .neq, (ch 1004), (ch 1005), (.bool false)⟩]
theorem Zw.i15 : Zw.d15.sub 8 [] (idl 8 Zw.d15.objs) (idA 3) (Zw.d15.st 8 []) = true := by kernel_rfl
theorem Zw.r15 : leafNext (fK (Tryz.Es Tryz.m4 (syOf Zw.t15)) 100000 100000 Zw.p0 (Zw.d15.st 8 []) 1) 8 Zw.d16 [(10, 10), (11, 11), (12, 12), (13, 13), (14, 14), (15, 15), (16, 16), (17, 17), (18, 18), (19, 196)] [(ch 1000), (ch 1001), (ch 1004)] = some Zw.p0 := by kernel_rfl
noncomputable def Zw.t19 : List SE := ncL [⟨.bin .add, (.int .i64 90), (ch 1000), (ch 1003)⟩,
  ⟨.bin .lss, (.int .i64 18), (ch 1003), (.bool true)⟩,
  ⟨.bin .add, (ch 1002), (ch 1001), (ch 1004)⟩,
  ⟨.bin .mul, (ch 1001), (.int .i64 19), (ch 1005)⟩,
  ⟨.bin .neq, (ch 1004), (ch 1005), (.bool false)⟩]
theorem Zw.i19 : Zw.d19.sub 8 [] (idl 8 Zw.d19.objs) (idA 3) (Zw.d19.st 8 []) = true := by kernel_rfl
theorem Zw.r19 : leafNext (fK (Tryz.Es Tryz.m4 (syOf Zw.t19)) 100000 100000 Zw.p0 (Zw.d19.st 8 []) 1) 8 Zw.d20 [(10, 10), (11, 11), (12, 12), (13, 13), (14, 14), (15, 15), (16, 16), (17, 17), (18, 18), (19, 196)] [(ch 1000), (ch 1001), (ch 1004)] = some Zw.p0 := by kernel_rfl
noncomputable def Zw.t23 : List SE := ncL [⟨.bin .add, (.int .i64 90), (ch 1000), (ch 1003)⟩,
  ⟨.bin .lss, (.int .i64 22), (ch 1003), (.bool true)⟩,
  ⟨.bin .add, (ch 1002), (ch 1001), (ch 1004)⟩,
  ⟨.bin .mul, (ch 1001), (.int .i64 23), (ch 1005)⟩,
  ⟨.bin .neq, (ch 1004), (ch 1005), (.bool false)⟩]
theorem Zw.i23 : Zw.d23.sub 8 [] (idl 8 Zw.d23.objs) (idA 3) (Zw.d23.st 8 []) = true := by kernel_rfl
theorem Zw.r23 : leafNext (fK (Tryz.Es Tryz.m4 (syOf Zw.t23)) 100000 100000 Zw.p0 (Zw.d23.st 8 []) 1) 8 Zw.d24 [(10, 10), (11, 11), (12, 12), (13, 13), (14, 14), (15, 15), (16, 16), (17, 17), (18, 18), (19, 196)] [(ch 1000), (ch 1001), (ch 1004)] = some Zw.p0 := by kernel_rfl
noncomputable def Zw.t27 : List SE := ncL [⟨.bin .add, (.int .i64 90), (ch 1000), (ch 1003)⟩,
  ⟨.bin .lss, (.int .i64 26), (ch 1003), (.bool true)⟩,
  ⟨.bin .add, (ch 1002), (ch 1001), (ch 1004)⟩,
  ⟨.bin .mul, (ch 1001), (.int .i64 27), (ch 1005)⟩,
  ⟨.bin .neq, (ch 1004), (ch 1005), (.bool false)⟩]
theorem Zw.i27 : Zw.d27.sub 8 [] (idl 8 Zw.d27.objs) (idA 3) (Zw.d27.st 8 []) = true := by kernel_rfl
theorem Zw.r27 : leafNext (fK (Tryz.Es Tryz.m4 (syOf Zw.t27)) 100000 100000 Zw.p0 (Zw.d27.st 8 []) 1) 8 Zw.d28 [(10, 10), (11, 11), (12, 12), (13, 13), (14, 14), (15, 15), (16, 16), (17, 17), (18, 18), (19, 196)] [(ch 1000), (ch 1001), (ch 1004)] = some Zw.p0 := by kernel_rfl
noncomputable def Zw.t31 : List SE := ncL [⟨.bin .add, (.int .i64 90), (ch 1000), (ch 1003)⟩,
  ⟨.bin .lss, (.int .i64 30), (ch 1003), (.bool true)⟩,
  ⟨.bin .add, (ch 1002), (ch 1001), (ch 1004)⟩,
  ⟨.bin .mul, (ch 1001), (.int .i64 31), (ch 1005)⟩,
  ⟨.bin .neq, (ch 1004), (ch 1005), (.bool false)⟩]
theorem Zw.i31 : Zw.d31.sub 8 [] (idl 8 Zw.d31.objs) (idA 3) (Zw.d31.st 8 []) = true := by kernel_rfl
theorem Zw.r31 : leafNext (fK (Tryz.Es Tryz.m4 (syOf Zw.t31)) 100000 100000 Zw.p0 (Zw.d31.st 8 []) 1) 8 Zw.d32 [(10, 10), (11, 11), (12, 12), (13, 13), (14, 14), (15, 15), (16, 16), (17, 17), (18, 18), (19, 196)] [(ch 1000), (ch 1001), (ch 1004)] = some Zw.p0 := by kernel_rfl
noncomputable def Zw.t35 : List SE := ncL [⟨.bin .add, (.int .i64 90), (ch 1000), (ch 1003)⟩,
  ⟨.bin .lss, (.int .i64 34), (ch 1003), (.bool true)⟩,
  ⟨.bin .add, (ch 1002), (ch 1001), (ch 1004)⟩,
  ⟨.bin .mul, (ch 1001), (.int .i64 35), (ch 1005)⟩,
  ⟨.bin .neq, (ch 1004), (ch 1005), (.bool false)⟩]
theorem Zw.i35 : Zw.d35.sub 8 [] (idl 8 Zw.d35.objs) (idA 3) (Zw.d35.st 8 []) = true := by kernel_rfl
theorem Zw.r35 : leafNext (fK (Tryz.Es Tryz.m4 (syOf Zw.t35)) 100000 100000 Zw.p0 (Zw.d35.st 8 []) 1) 8 Zw.d36 [(10, 10), (11, 11), (12, 12), (13, 13), (14, 14), (15, 15), (16, 16), (17, 17), (18, 18), (19, 196)] [(ch 1000), (ch 1001), (ch 1004)] = some Zw.p0 := by kernel_rfl
noncomputable def Zw.t39 : List SE := ncL [⟨.bin .add, (.int .i64 90), (ch 1000), (ch 1003)⟩,
  ⟨.bin .lss, (.int .i64 38), (ch 1003), (.bool true)⟩,
  ⟨.bin .add, (ch 1002), (ch 1001), (ch 1004)⟩,
  ⟨.bin .mul, (ch 1001), (.int .i64 39), (ch 1005)⟩,
  ⟨.bin .neq, (ch 1004), (ch 1005), (.bool false)⟩]
theorem Zw.i39 : Zw.d39.sub 8 [] (idl 8 Zw.d39.objs) (idA 3) (Zw.d39.st 8 []) = true := by kernel_rfl
theorem Zw.r39 : leafNext (fK (Tryz.Es Tryz.m4 (syOf Zw.t39)) 100000 100000 Zw.p0 (Zw.d39.st 8 []) 1) 8 Zw.d40 [(10, 10), (11, 11), (12, 12), (13, 13), (14, 14), (15, 15), (16, 16), (17, 17), (18, 18), (19, 196)] [(ch 1000), (ch 1001), (ch 1004)] = some Zw.p0 := by kernel_rfl
noncomputable def Zw.t43 : List SE := ncL [⟨.bin .add, (.int .i64 90), (ch 1000), (ch 1003)⟩,
  ⟨.bin .lss, (.int .i64 42), (ch 1003), (.bool true)⟩,
  ⟨.bin .add, (ch 1002), (ch 1001), (ch 1004)⟩,
  ⟨.bin .mul, (ch 1001), (.int .i64 43), (ch 1005)⟩,
  ⟨.bin .neq, (ch 1004), (ch 1005), (.bool false)⟩]
theorem Zw.i43 : Zw.d43.sub 8 [] (idl 8 Zw.d43.objs) (idA 3) (Zw.d43.st 8 []) = true := by kernel_rfl
theorem Zw.r43 : leafNext (fK (Tryz.Es Tryz.m4 (syOf Zw.t43)) 100000 100000 Zw.p0 (Zw.d43.st 8 []) 1) 8 Zw.d44 [(10, 10), (11, 11), (12, 12), (13, 13), (14, 14), (15, 15), (16, 16), (17, 17), (18, 18), (19, 196)] [(ch 1000), (ch 1001), (ch 1004)] = some Zw.p0 := by kernel_rfl
noncomputable def Zw.t47 : List SE := ncL [⟨.bin .add, (.int .i64 90), (ch 1000), (ch 1003)⟩,
  ⟨.bin .lss, (.int .i64 46), (ch 1003), (.bool true)⟩,
  ⟨.bin .add, (ch 1002), (ch 1001), (ch 1004)⟩,
  ⟨.bin .mul, (ch 1001), (.int .i64 47), (ch 1005)⟩,
  ⟨.bin .neq, (ch 1004), (ch 1005), (.bool false)⟩]
theorem Zw.i47 : Zw.d47.sub 8 [] (idl 8 Zw.d47.objs) (idA 3) (Zw.d47.st 8 []) = true := by kernel_rfl
theorem Zw.r47 : leafNext (fK (Tryz.Es Tryz.m4 (syOf Zw.t47)) 100000 100000 Zw.p0 (Zw.d47.st 8 []) 1) 8 Zw.d48 [(10, 10), (11, 11), (12, 12), (13, 13), (14, 14), (15, 15), (16, 16), (17, 17), (18, 18), (19, 196)] [(ch 1000), (ch 1001), (ch 1004)] = some Zw.p0 := by kernel_rfl
noncomputable def Zw.t51 : List SE := ncL [⟨.bin .add, (.int .i64 90), (ch 1000), (ch 1003)⟩,
  ⟨.bin .lss, (.int .i64 50), (ch 1003), (.bool true)⟩,
  ⟨.bin .add, (ch 1002), (ch 1001), (ch 1004)⟩,
  ⟨.bin .mul, (ch 1001), (.int .i64 51), (ch 1005)⟩,
  ⟨.bin .neq, (ch 1004), (ch 1005), (.bool false)⟩]
theorem Zw.i51 : Zw.d51.sub 8 [] (idl 8 Zw.d51.objs) (idA 3) (Zw.d51.st 8 []) = true := by kernel_rfl
theorem Zw.r51 : leafNext (fK (Tryz.Es Tryz.m4 (syOf Zw.t51)) 100000 100000 Zw.p0 (Zw.d51.st 8 []) 1) 8 Zw.d52 [(10, 10), (11, 11), (12, 12), (13, 13), (14, 14), (15, 15), (16, 16), (17, 17), (18, 18), (19, 196)] [(ch 1000), (ch 1001), (ch 1004)] = some Zw.p0 := by kernel_rfl
noncomputable def Zw.t55 : List SE := ncL [⟨.bin .add, (.int .i64 90), (ch 1000), (ch 1003)⟩,
  ⟨.bin .lss, (.int .i64 54), (ch 1003), (.bool true)⟩,
  ⟨.bin .add, (ch 1002), (ch 1001), (ch 1004)⟩,
  ⟨.bin .mul, (ch 1001), (.int .i64 55), (ch 1005)⟩,
  ⟨.bin .neq, (ch 1004), (ch 1005), (.bool false)⟩]
theorem Zw.i55 : Zw.d55.sub 8 [] (idl 8 Zw.d55.objs) (idA 3) (Zw.d55.st 8 []) = true := by kernel_rfl
theorem Zw.r55 : leafNext (fK (Tryz.Es Tryz.m4 (syOf Zw.t55)) 100000 100000 Zw.p0 (Zw.d55.st 8 []) 1) 8 Zw.d56 [(10, 10), (11, 11), (12, 12), (13, 13), (14, 14), (15, 15), (16, 16), (17, 17), (18, 18), (19, 196)] [(ch 1000), (ch 1001), (ch 1004)] = some Zw.p0 := by kernel_rfl
noncomputable def Zw.t59 : List SE := ncL [⟨.bin .add, (.int .i64 90), (ch 1000), (ch 1003)⟩,
  ⟨.bin .lss, (.int .i64 58), (ch 1003), (.bool true)⟩,
  ⟨.bin .add, (ch 1002), (ch 1001), (ch 1004)⟩,
  ⟨.bin .mul, (ch 1001), (.int .i64 59), (ch 1005)⟩,
  ⟨.bin .neq, (ch 1004), (ch 1005), (.bool false)⟩]
theorem Zw.i59 : Zw.d59.sub 8 [] (idl 8 Zw.d59.objs) (idA 3) (Zw.d59.st 8 []) = true := by kernel_rfl
theorem Zw.r59 : leafNext (fK (Tryz.Es Tryz.m4 (syOf Zw.t59)) 100000 100000 Zw.p0 (Zw.d59.st 8 []) 1) 8 Zw.d60 [(10, 10), (11, 11), (12, 12), (13, 13), (14, 14), (15, 15), (16, 16), (17, 17), (18, 18), (19, 196)] [(ch 1000), (ch 1001), (ch 1004)] = some Zw.p0 := by kernel_rfl
noncomputable def Zw.t63 : List SE := ncL [⟨.bin .add, (.int .i64 90), (ch 1000), (ch 1003)⟩,
  ⟨.bin .lss, (.int .i64 62), (ch 1003), (.bool true)⟩,
  ⟨.bin .add, (ch 1002), (ch 1001), (ch 1004)⟩,
  ⟨.bin .mul, (ch 1001), (.int .i64 63), (ch 1005)⟩,
  ⟨.bin .neq, (ch 1004), (ch 1005), (.bool false)⟩]
theorem Zw.i63 : Zw.d63.sub 8 [] (idl 8 Zw.d63.objs) (idA 3) (Zw.d63.st 8 []) = true := by kernel_rfl
theorem Zw.r63 : leafNext (fK (Tryz.Es Tryz.m4 (syOf Zw.t63)) 100000 100000 Zw.p0 (Zw.d63.st 8 []) 1) 8 Zw.d64 [(10, 10), (11, 11), (12, 12), (13, 13), (14, 14), (15, 15), (16, 16), (17, 17), (18, 18), (19, 196)] [(ch 1000), (ch 1001), (ch 1004)] = some Zw.p0 := by kernel_rfl
noncomputable def Zw.t67 : List SE := ncL [⟨.bin .add, (.int .i64 90), (ch 1000), (ch 1003)⟩,
  ⟨.bin .lss, (.int .i64 66), (ch 1003), (.bool true)⟩,
  ⟨.bin .add, (ch 1002), (ch 1001), (ch 1004)⟩,
  ⟨.bin .mul, (ch 1001), (.int .i64 67), (ch 1005)⟩,
  ⟨.bin .neq, (ch 1004), (ch 1005), (.bool false)⟩]
theorem Zw.i67 : Zw.d67.sub 8 [] (idl 8 Zw.d67.objs) (idA 3) (Zw.d67.st 8 []) = true := by kernel_rfl
theorem Zw.r67 : leafNext (fK (Tryz.Es Tryz.m4 (syOf Zw.t67)) 100000 100000 Zw.p0 (Zw.d67.st 8 []) 1) 8 Zw.d68 [(10, 10), (11, 11), (12, 12), (13, 13), (14, 14), (15, 15), (16, 16), (17, 17), (18, 18), (19, 196)] [(ch 1000), (ch 1001), (ch 1004)] = some Zw.p0 := by kernel_rfl
noncomputable def Zw.t71 : List SE := ncL [⟨.bin .add, (.int .i64 90), (ch 1000), (ch 1003)⟩,
  ⟨.bin .lss, (.int .i64 70), (ch 1003), (.bool true)⟩,
  ⟨.bin .add, (ch 1002), (ch 1001), (ch 1004)⟩,
  ⟨.bin .mul, (ch 1001), (.int .i64 71), (ch 1005)⟩,
  ⟨.bin .neq, (ch 1004), (ch 1005), (.bool false)⟩]
theorem Zw.i71 : Zw.d71.sub 8 [] (idl 8 Zw.d71.objs) (idA 3) (Zw.d71.st 8 []) = true := by kernel_rfl
theorem Zw.r71 : leafNext (fK (Tryz.Es Tryz.m4 (syOf Zw.t71)) 100000 100000 Zw.p0 (Zw.d71.st 8 []) 1) 8 Zw.d72 [(10, 10), (11, 11), (12, 12), (13, 13), (14, 14), (15, 15), (16, 16), (17, 17), (18, 18), (19, 196)] [(ch 1000), (ch 1001), (ch 1004)] = some Zw.p0 := by kernel_rfl
noncomputable def Zw.t75 : List SE := ncL [⟨.bin .add, (.int .i64 90), (ch 1000), (ch 1003)⟩,
  ⟨.bin .lss, (.int .i64 74), (ch 1003), (.bool true)⟩,
  ⟨.bin .add, (ch 1002), (ch 1001), (ch 1004)⟩,
  ⟨.bin .mul, (ch 1001), (.int .i64 75), (ch 1005)⟩,
  ⟨.bin .neq, (ch 1004), (ch 1005), (.bool false)⟩]
theorem Zw.i75 : Zw.d75.sub 8 [] (idl 8 Zw.d75.objs) (idA 3) (Zw.d75.st 8 []) = true := by kernel_rfl
theorem Zw.r75 : leafNext (fK (Tryz.Es Tryz.m4 (syOf Zw.t75)) 100000 100000 Zw.p0 (Zw.d75.st 8 []) 1) 8 Zw.d76 [(10, 10), (11, 11), (12, 12), (13, 13), (14, 14), (15, 15), (16, 16), (17, 17), (18, 18), (19, 196)] [(ch 1000), (ch 1001), (ch 1004)] = some Zw.p0 := by kernel_rfl
noncomputable def Zw.t79 : List SE := ncL [⟨.bin .add, (.int .i64 90), (ch 1000), (ch 1003)⟩,
  ⟨.bin .lss, (.int .i64 78), (ch 1003), (.bool true)⟩,
  ⟨.bin .add, (ch 1002), (ch 1001), (ch 1004)⟩,
  ⟨.bin .mul, (ch 1001), (.int .i64 79), (ch 1005)⟩,
  ⟨.bin .neq, (ch 1004), (ch 1005), (.bool false)⟩]
theorem Zw.i79 : Zw.d79.sub 8 [] (idl 8 Zw.d79.objs) (idA 3) (Zw.d79.st 8 []) = true := by kernel_rfl
theorem Zw.r79 : leafNext (fK (Tryz.Es Tryz.m4 (syOf Zw.t79)) 100000 100000 Zw.p0 (Zw.d79.st 8 []) 1) 8 Zw.d80 [(10, 10), (11, 11), (12, 12), (13, 13), (14, 14), (15, 15), (16, 16), (17, 17), (18, 18), (19, 196)] [(ch 1000), (ch 1001), (ch 1004)] = some Zw.p0 := by kernel_rfl
noncomputable def Zw.t83 : List SE := ncL [⟨.bin .add, (.int .i64 90), (ch 1000), (ch 1003)⟩,
  ⟨.bin .lss, (.int .i64 82), (ch 1003), (.bool true)⟩,
  ⟨.bin .add, (ch 1002), (ch 1001), (ch 1004)⟩,
  ⟨.bin .mul, (ch 1001), (.int .i64 83), (ch 1005)⟩,
  ⟨.bin .neq, (ch 1004), (ch 1005), (.bool false)⟩]
theorem Zw.i83 : Zw.d83.sub 8 [] (idl 8 Zw.d83.objs) (idA 3) (Zw.d83.st 8 []) = true := by kernel_rfl
theorem Zw.r83 : leafNext (fK (Tryz.Es Tryz.m4 (syOf Zw.t83)) 100000 100000 Zw.p0 (Zw.d83.st 8 []) 1) 8 Zw.d84 [(10, 10), (11, 11), (12, 12), (13, 13), (14, 14), (15, 15), (16, 16), (17, 17), (18, 18), (19, 196)] [(ch 1000), (ch 1001), (ch 1004)] = some Zw.p0 := by kernel_rfl
noncomputable def Zw.t87 : List SE := ncL [⟨.bin .add, (.int .i64 90), (ch 1000), (ch 1003)⟩,
  ⟨.bin .lss, (.int .i64 86), (ch 1003), (.bool true)⟩,
  ⟨.bin .add, (ch 1002), (ch 1001), (ch 1004)⟩,
  ⟨.bin .mul, (ch 1001), (.int .i64 87), (ch 1005)⟩,
  ⟨.bin .neq, (ch 1004), (ch 1005), (.bool false)⟩]
theorem Zw.i87 : Zw.d87.sub 8 [] (idl 8 Zw.d87.objs) (idA 3) (Zw.d87.st 8 []) = true := by kernel_rfl
theorem Zw.r87 : leafNext (fK (Tryz.Es Tryz.m4 (syOf Zw.t87)) 100000 100000 Zw.p0 (Zw.d87.st 8 []) 1) 8 Zw.d88 [(10, 10), (11, 11), (12, 12), (13, 13), (14, 14), (15, 15), (16, 16), (17, 17), (18, 18), (19, 196)] [(ch 1000), (ch 1001), (ch 1004)] = some Zw.p0 := by kernel_rfl
noncomputable def Zw.t91 : List SE := ncL [⟨.bin .add, (.int .i64 90), (ch 1000), (ch 1003)⟩,
  ⟨.bin .lss, (.int .i64 90), (ch 1003), (.bool true)⟩,
  ⟨.bin .add, (ch 1002), (ch 1001), (ch 1004)⟩,
  ⟨.bin .mul, (ch 1001), (.int .i64 91), (ch 1005)⟩,
  ⟨.bin .neq, (ch 1004), (ch 1005), (.bool false)⟩]
theorem Zw.i91 : Zw.d91.sub 8 [] (idl 8 Zw.d91.objs) (idA 3) (Zw.d91.st 8 []) = true := by kernel_rfl
theorem Zw.r91 : leafNext (fK (Tryz.Es Tryz.m4 (syOf Zw.t91)) 100000 100000 Zw.p0 (Zw.d91.st 8 []) 1) 8 Zw.d92 [(10, 10), (11, 11), (12, 12), (13, 13), (14, 14), (15, 15), (16, 16), (17, 17), (18, 18), (19, 196)] [(ch 1000), (ch 1001), (ch 1004)] = some Zw.p0 := by kernel_rfl
noncomputable def Zw.t95 : List SE := ncL [⟨.bin .add, (.int .i64 90), (ch 1000), (ch 1003)⟩,
  ⟨.bin .lss, (.int .i64 92), (ch 1003), (.bool true)⟩,
  ⟨.bin .add, (ch 1002), (ch 1001), (ch 1004)⟩,
  ⟨.bin .mul, (ch 1001), (.int .i64 93), (ch 1005)⟩,
  ⟨.bin .neq, (ch 1004), (ch 1005), (.bool false)⟩]
theorem Zw.i95 : Zw.d93.sub 8 [] (idl 8 Zw.d93.objs) (idA 3) (Zw.d93.st 8 []) = true := by kernel_rfl
theorem Zw.r95 : leafNext (fK (Tryz.Es Tryz.m4 (syOf Zw.t95)) 100000 100000 Zw.p0 (Zw.d93.st 8 []) 1) 8 Zw.d94 [(10, 10), (11, 11), (12, 12), (13, 13), (14, 14), (15, 15), (16, 16), (17, 17), (18, 18), (19, 196)] [(ch 1000), (ch 1001), (ch 1004)] = some Zw.p0 := by kernel_rfl
noncomputable def Zw.t99 : List SE := ncL [⟨.bin .add, (.int .i64 90), (ch 1000), (ch 1003)⟩,
  ⟨.bin .lss, (.int .i64 94), (ch 1003), (.bool true)⟩,
  ⟨.bin .add, (ch 1002), (ch 1001), (ch 1004)⟩,
  ⟨.bin .mul, (ch 1001), (.int .i64 95), (ch 1005)⟩,
  ⟨.bin .neq, (ch 1004), (ch 1005), (.bool false)⟩]
theorem Zw.i99 : Zw.d95.sub 8 [] (idl 8 Zw.d95.objs) (idA 3) (Zw.d95.st 8 []) = true := by kernel_rfl
theorem Zw.r99 : leafNext (fK (Tryz.Es Tryz.m4 (syOf Zw.t99)) 100000 100000 Zw.p0 (Zw.d95.st 8 []) 1) 8 Zw.d96 [(10, 10), (11, 11), (12, 12), (13, 13), (14, 14), (15, 15), (16, 16), (17, 17), (18, 18), (19, 196)] [(ch 1000), (ch 1001), (ch 1004)] = some Zw.p0 := by kernel_rfl
noncomputable def Zw.t103 : List SE := ncL [⟨.bin .add, (.int .i64 90), (ch 1000), (ch 1003)⟩,
  ⟨.bin .lss, (.int .i64 96), (ch 1003), (.bool true)⟩,
  ⟨.bin .add, (ch 1002), (ch 1001), (ch 1004)⟩,
  ⟨.bin .mul, (ch 1001), (.int .i64 97), (ch 1005)⟩,
  ⟨.bin .neq, (ch 1004), (ch 1005), (.bool false)⟩]
theorem Zw.i103 : Zw.d97.sub 8 [] (idl 8 Zw.d97.objs) (idA 3) (Zw.d97.st 8 []) = true := by kernel_rfl
theorem Zw.r103 : leafNext (fK (Tryz.Es Tryz.m4 (syOf Zw.t103)) 100000 100000 Zw.p0 (Zw.d97.st 8 []) 1) 8 Zw.d98 [(10, 10), (11, 11), (12, 12), (13, 13), (14, 14), (15, 15), (16, 16), (17, 17), (18, 18), (19, 196)] [(ch 1000), (ch 1001), (ch 1004)] = some Zw.p0 := by kernel_rfl
noncomputable def Zw.t107 : List SE := ncL [⟨.bin .add, (.int .i64 90), (ch 1000), (ch 1003)⟩,
  ⟨.bin .lss, (.int .i64 98), (ch 1003), (.bool true)⟩,
  ⟨.bin .add, (ch 1002), (ch 1001), (ch 1004)⟩,
  ⟨.bin .mul, (ch 1001), (.int .i64 99), (ch 1005)⟩,
  ⟨.bin .neq, (ch 1004), (ch 1005), (.bool false)⟩]
theorem Zw.i107 : Zw.d99.sub 8 [] (idl 8 Zw.d99.objs) (idA 3) (Zw.d99.st 8 []) = true := by kernel_rfl
theorem Zw.r107 : leafNext (fK (Tryz.Es Tryz.m4 (syOf Zw.t107)) 100000 100000 Zw.p0 (Zw.d99.st 8 []) 1) 8 Zw.d100 [(10, 10), (11, 11), (12, 12), (13, 13), (14, 14), (15, 15), (16, 16), (17, 17), (18, 18), (19, 196)] [(ch 1000), (ch 1001), (ch 1004)] = some Zw.p0 := by kernel_rfl
noncomputable def Zw.t111 : List SE := ncL [⟨.bin .add, (.int .i64 90), (ch 1000), (ch 1003)⟩,
  ⟨.bin .lss, (.int .i64 100), (ch 1003), (.bool true)⟩,
  ⟨.bin .add, (ch 1002), (ch 1001), (ch 1004)⟩]
theorem Zw.i111 : Zw.d101.sub 8 [] (idl 8 Zw.d101.objs) (idA 3) (Zw.d101.st 8 []) = true := by kernel_rfl
theorem Zw.r111 : leafNext (fK (Tryz.Es Tryz.m4 (syOf Zw.t111)) 100000 100000 Zw.p0 (Zw.d101.st 8 []) 1) 8 Zw.d102 [(10, 10), (11, 11), (12, 12), (13, 13), (14, 14), (15, 15), (16, 16), (17, 17), (18, 18), (19, 19)] [(ch 1000), (ch 1001), (ch 1002)] = some Zw.p0 := by kernel_rfl
end
end Go.Proofs
