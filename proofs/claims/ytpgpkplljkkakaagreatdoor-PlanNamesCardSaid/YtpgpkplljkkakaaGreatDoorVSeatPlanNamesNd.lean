/- The law's first state, the tables of what is known of its atoms. No conditions. -/
import Derived.Test.YtpgpkplljkkakaaGreatDoorVGlue
import Derived.Test.YtpgpkplljkkakaaGreatDoorVStrP2
import Derived.Test.YtpgpkplljkkakaaGreatDoorVSeatRun3
import Derived.Test.YtpgpkplljkkakaaGreatDoorVSeatLayS
set_option linter.all false
namespace Go.Proofs
open Go Go.Vsx
set_option maxRecDepth 1000000
noncomputable section
theorem Zw.ft : (genPT 12 (fun f => Tryz.prog.funcs[f]?)).get 5 = some Tryz.f5 := by kernel_rfl
theorem Zw.envF (m : List (Nat × PrimK)) (sy : PT (List SE)) : EnvF Tryz.prog (Tryz.Es m sy) 8 := by
  have := mkEnvS_fn (P := Tryz.prog) Tryz.ext (ptOf (m ++ Tryz.primL)) sy Tryz.chk
  rw [Tryz.nglob] at this; exact this
def Zw.gr : List (Nat × AObj) := [(0, (.row ⟨[(ch 0)], 1, 0, 1, true, false, false⟩)), (1, (.row ⟨[(ch 1)], 1, 0, 1, true, false, false⟩))]
def Zw.pS : Pt := ptStart Tryz.f5
theorem Zw.kS (m : List (Nat × PrimK)) (sy : PT (List SE)) : okPt (Tryz.Es m sy) 8 Zw.pS = true := okPt_start (Zw.envF m sy) Zw.ft
def Zw.d0 : Nd := ⟨164, [(0, (ch 1000)), (1, (ch 1001)), (2, (ch 1002)), (3, (ch 1003)), (4, (ch 1004))], 8, Zw.gr ++ []⟩
def Zw.sL : List (Nat × PrimK) := [(43, .itoa), (44, .rep), (47, .join), (49, .split 9), (50, .atoi)]
def Zw.mS : List (Nat × PrimK) := Tryz.m3 ++ Zw.sL
def Zw.fin (t : List SE) : Bool := leafFin (Tryz.Es Zw.mS (syOf t)) Tryz.f5 (fK (Tryz.Es Zw.mS (syOf t)) 100000 100000 Zw.pS (Zw.d0.st 8 []) 0)
def Zw.st (l : List Nat) : Value := .string ⟨(l.map UInt8.ofNat).toArray⟩
def Zw.nil0 : Value := .int .i64 0
def Zw.dot : Value := Zw.st [46]
def Zw.ad (x y : Value) (r : Nat) : SE := ⟨.sbin .add, x, y, ch r⟩
def Zw.cb (op : BinOp) (x : Nat) (c : Int) (b : Bool) : SE := ⟨.bin op, ch x, .int .i64 c, .bool b⟩
def Zw.ln (s : Nat) (n : Int) : SE := ⟨.slen, ch s, .int .i64 0, .int .i64 n⟩
def Zw.num (z s : Nat) (k : Int) : List SE := [⟨.itoa, ch z, .int .i64 0, ch s⟩, ⟨.slen, ch s, .int .i64 0, ch (s + 1)⟩, ⟨.bin .sub, .int .i64 k, ch (s + 1), ch (s + 2)⟩, ⟨.mx, ch (s + 2), .int .i64 0, ch (s + 2)⟩, ⟨.rep, Zw.st [48], ch (s + 2), ch (s + 3)⟩, ⟨.sbin .add, ch (s + 3), ch s, ch (s + 4)⟩]
/-- A digit: of the number in z, behind the string p; the answer is the atom r. -/
def Zw.dg (z s : Nat) (p : Value) (r : Nat) : List SE := [⟨.bin .rem, ch z, .int .i64 10, ch s⟩, ⟨.bin .add, .int .i64 48, ch s, ch (s + 1)⟩, ⟨.conv .u8, ch (s + 1), .int .i64 0, ch (s + 2)⟩, ⟨.snoc, Zw.st [], ch (s + 2), ch (s + 3)⟩, ⟨.sbin .add, ch (s + 3), p, ch r⟩, ⟨.bin .quo, ch z, .int .i64 10, ch (s + 5)⟩]
def Zw.d1 (z s r : Nat) : List SE := Zw.dg z s (Zw.st []) r
def Zw.d4 (z s r : Nat) : List SE := Zw.dg z s (Zw.st []) (s + 4) ++ (Zw.dg (s + 5) (s + 6) (ch (s + 4)) (s + 10) ++ (Zw.dg (s + 11) (s + 12) (ch (s + 10)) (s + 16) ++ Zw.dg (s + 17) (s + 18) (ch (s + 16)) r))
def Zw.d5 (z s r : Nat) : List SE := Zw.dg z s (Zw.st []) (s + 4) ++ (Zw.dg (s + 5) (s + 6) (ch (s + 4)) (s + 10) ++ (Zw.dg (s + 11) (s + 12) (ch (s + 10)) (s + 16) ++ (Zw.dg (s + 17) (s + 18) (ch (s + 16)) (s + 22) ++ Zw.dg (s + 23) (s + 24) (ch (s + 22)) r)))
/-- A base's name, a segment's name: from the atoms of the numbers; the group's atoms from B on. -/
def Zw.gB (B z0 z1 z3 : Nat) : List SE := Zw.num z0 B 1 ++ (Zw.num z1 (B + 5) 4 ++ (Zw.num z3 (B + 15) 5 ++ (Zw.d1 z0 (B + 20) (B + 4) ++ (Zw.d4 z1 (B + 26) (B + 9) ++ (Zw.d5 z3 (B + 80) (B + 19) ++
  [Zw.ad (Zw.st [98]) (ch (B + 4)) (B + 117), Zw.ad (ch (B + 117)) Zw.dot (B + 118), Zw.ad (ch (B + 118)) (ch (B + 9)) (B + 119), Zw.ad (ch (B + 119)) Zw.dot (B + 120), Zw.ad (ch (B + 120)) (ch (B + 19)) (B + 121), ⟨.slen, ch (B + 121), .int .i64 0, .int .i64 13⟩])))))
def Zw.gN (B z0 z1 z2 z3 : Nat) : List SE := Zw.num z0 B 1 ++ (Zw.num z1 (B + 5) 4 ++ (Zw.num z2 (B + 10) 5 ++ (Zw.num z3 (B + 15) 5 ++ (Zw.d1 z0 (B + 20) (B + 4) ++ (Zw.d4 z1 (B + 26) (B + 9) ++ (Zw.d5 z2 (B + 50) (B + 14) ++ (Zw.d5 z3 (B + 80) (B + 19) ++
  [Zw.ad (Zw.st [116]) (ch (B + 4)) (B + 110), Zw.ad (ch (B + 110)) Zw.dot (B + 111), Zw.ad (ch (B + 111)) (ch (B + 9)) (B + 112), Zw.ad (ch (B + 112)) Zw.dot (B + 113), Zw.ad (ch (B + 113)) (ch (B + 14)) (B + 114), Zw.ad (ch (B + 114)) Zw.dot (B + 115), Zw.ad (ch (B + 115)) (ch (B + 19)) (B + 116), ⟨.slen, ch (B + 116), .int .i64 0, .int .i64 19⟩])))))))
def Zw.tOk (z : Nat) : List SE := [Zw.cb .geq z 0 true, Zw.cb .lss z 0 false, Zw.cb .lss z 3 true, Zw.cb .geq z 3 false]
def Zw.may (z0 z1 : Nat) : Nat → List SE
  | 0 => [Zw.cb .geq z0 0 false, Zw.cb .lss z0 0 true]
  | 1 => [Zw.cb .geq z0 0 true, Zw.cb .lss z0 0 false, Zw.cb .lss z0 3 false, Zw.cb .geq z0 3 true]
  | 2 => Zw.tOk z0 ++ [Zw.cb .geq z1 1 false, Zw.cb .lss z1 1 true]
  | 3 => Zw.tOk z0 ++ [Zw.cb .geq z1 1 true, Zw.cb .lss z1 1 false, Zw.cb .leq z1 9999 false, Zw.cb .gtr z1 9999 true]
  | _ => Zw.tOk z0 ++ [Zw.cb .geq z1 1 true, Zw.cb .lss z1 1 false, Zw.cb .leq z1 9999 true, Zw.cb .gtr z1 9999 false]
def Zw.uf (u f : Nat) (b : Bool) : SE := ⟨.bin .lss, ch u, ch f, .bool b⟩
def Zw.u0 (u : Nat) : List SE := [Zw.cb .lss u 1 true]
def Zw.u1 (u : Nat) : List SE := [Zw.cb .lss u 1 false, Zw.cb .gtr u 10000 true]
def Zw.u2 (u : Nat) : List SE := [Zw.cb .lss u 1 false, Zw.cb .gtr u 10000 false]
def Zw.cnt (x : Nat) (n : Int) : SE := ⟨.cnt, ch x, Zw.dot, .int .i64 n⟩
def Zw.pc (x i r : Nat) : SE := ⟨.piece i, ch x, Zw.dot, ch r⟩
def Zw.seq (op : BinOp) (x y : Nat) (b : Bool) : SE := ⟨.sbin op, ch x, ch y, .bool b⟩
def Zw.se (op : BinOp) (x : Nat) (b : Bool) : SE := ⟨.sbin op, ch x, Zw.st [], .bool b⟩
def Zw.es (x : Nat) : SE := ⟨.sbin .eql, Zw.st [], ch x, .bool false⟩
def Zw.at (x r : Nat) : SE := ⟨.atoi, ch x, .int .i64 0, ch r⟩
def Zw.ne (x : Nat) : SE := ⟨.bin .neq, ch x, ch x, .bool false⟩
def Zw.sp (x r : Nat) : List SE := [⟨.slen, ch x, .int .i64 0, .int .i64 2⟩, ⟨.sfrom, ch x, .int .i64 1, ch r⟩]
/-- The base's name, read back; the segment's name, read back. -/
def Zw.rB : List SE := [Zw.cnt 1129 3, Zw.pc 1129 0 1125, Zw.pc 1129 1 1017, Zw.pc 1129 2 1027, Zw.se .eql 1129 false, Zw.se .neq 1129 true] ++ (Zw.sp 1125 1012 ++ [Zw.at 1012 1000, Zw.at 1017 1001, Zw.at 1027 1003, Zw.seq .eql 1129 1129 true, Zw.seq .neq 1129 1129 false, Zw.ne 1000, Zw.ne 1001, Zw.ne 1003])
def Zw.rN : List SE := [Zw.cnt 1124 4, Zw.pc 1124 0 1118, Zw.pc 1124 1 1017, Zw.pc 1124 2 1022, Zw.pc 1124 3 1027, Zw.se .eql 1124 false, Zw.se .neq 1124 true] ++ (Zw.sp 1118 1012 ++ [Zw.at 1012 1000, Zw.at 1017 1001, Zw.at 1022 1002, Zw.at 1027 1003, Zw.seq .eql 1124 1124 true, Zw.seq .neq 1124 1124 false, Zw.ne 1000, Zw.ne 1001, Zw.ne 1002, Zw.ne 1003])
def Zw.fB : List SE := Zw.gB 1008 1000 1001 1003 ++ Zw.rB
def Zw.fN : List SE := Zw.gN 1008 1000 1001 1002 1003 ++ Zw.rN
/-- What is known of task, run, from, upto. -/
def Zw.F : Nat → List SE
  | 0 => Zw.may 1000 1001 0
  | 1 => Zw.may 1000 1001 1
  | 2 => Zw.may 1000 1001 2
  | 3 => Zw.may 1000 1001 3
  | 4 => Zw.may 1000 1001 4 ++ (Zw.cb .lss 1002 1 true :: Zw.u0 1003)
  | 5 => Zw.may 1000 1001 4 ++ (Zw.cb .lss 1002 1 true :: Zw.u1 1003)
  | 6 => Zw.may 1000 1001 4 ++ (Zw.cb .lss 1002 1 true :: (Zw.u2 1003 ++ Zw.fB))
  | 7 => Zw.may 1000 1001 4 ++ (Zw.cb .lss 1002 1 false :: Zw.uf 1003 1002 true :: Zw.u0 1003)
  | 8 => Zw.may 1000 1001 4 ++ (Zw.cb .lss 1002 1 false :: Zw.uf 1003 1002 true :: Zw.u1 1003)
  | 9 => Zw.may 1000 1001 4 ++ (Zw.cb .lss 1002 1 false :: Zw.uf 1003 1002 true :: (Zw.u2 1003 ++ Zw.fB))
  | 10 => Zw.may 1000 1001 4 ++ (Zw.cb .lss 1002 1 false :: Zw.uf 1003 1002 false :: Zw.u1 1003)
  | _ => Zw.may 1000 1001 4 ++ (Zw.cb .lss 1002 1 false :: Zw.uf 1003 1002 false :: (Zw.u2 1003 ++ (Zw.fB ++ Zw.fN)))
def Zw.S0 : List SE := [⟨.slen, ch 1004, .int .i64 0, ch 1005⟩, ⟨.mn, ch 1005, .int .i64 30, ch 1006⟩, ⟨.sto, ch 1004, ch 1006, ch 1007⟩]
def Zw.P0 : List SE := [⟨.slen, ch 1130, .int .i64 0, ch 1134⟩, ⟨.mn, ch 1134, .int .i64 1, ch 1135⟩, ⟨.sfrom, ch 1130, ch 1135, ch 1136⟩, Zw.at 1136 1137, Zw.at 1131 1138, Zw.at 1133 1140]
def Zw.P3 : List SE := Zw.se .eql 1007 false :: Zw.cnt 1007 3 :: Zw.pc 1007 0 1130 :: Zw.pc 1007 1 1131 :: Zw.pc 1007 2 1133 :: Zw.P0
def Zw.P4 : List SE := Zw.se .eql 1007 false :: Zw.cnt 1007 4 :: Zw.pc 1007 0 1130 :: Zw.pc 1007 1 1131 :: Zw.pc 1007 2 1132 :: Zw.pc 1007 3 1133 :: Zw.at 1132 1139 :: Zw.P0
/-- What is known of the string. -/
def Zw.Sx (n : Nat) : List SE := [Zw.se .eql 1007 false, Zw.cnt 1007 (Int.ofNat n)]
def Zw.S3 : Nat → List SE
  | 0 => Zw.may 1137 1138 0 ++ [Zw.es 1007]
  | 1 => Zw.may 1137 1138 1 ++ [Zw.es 1007]
  | 2 => Zw.may 1137 1138 2 ++ [Zw.es 1007]
  | 3 => Zw.may 1137 1138 3 ++ [Zw.es 1007]
  | 4 => Zw.may 1137 1138 4 ++ (Zw.u0 1140 ++ [Zw.es 1007])
  | 5 => Zw.may 1137 1138 4 ++ (Zw.u1 1140 ++ [Zw.es 1007])
  | 6 => Zw.may 1137 1138 4 ++ (Zw.u2 1140 ++ (Zw.gB 1141 1137 1138 1140 ++ [Zw.seq .eql 1262 1007 false]))
  | _ => Zw.may 1137 1138 4 ++ (Zw.u2 1140 ++ (Zw.gB 1141 1137 1138 1140 ++ [Zw.seq .eql 1262 1007 true, Zw.seq .eql 1007 1262 true]))
def Zw.S4 : Nat → List SE
  | 0 => Zw.may 1137 1138 0 ++ [Zw.es 1007]
  | 1 => Zw.may 1137 1138 1 ++ [Zw.es 1007]
  | 2 => Zw.may 1137 1138 2 ++ [Zw.es 1007]
  | 3 => Zw.may 1137 1138 3 ++ [Zw.es 1007]
  | 4 => Zw.may 1137 1138 4 ++ [Zw.cb .lss 1139 1 true, Zw.es 1007]
  | 5 => Zw.may 1137 1138 4 ++ [Zw.cb .lss 1139 1 false, Zw.uf 1140 1139 true, Zw.es 1007]
  | 6 => Zw.may 1137 1138 4 ++ [Zw.cb .lss 1139 1 false, Zw.uf 1140 1139 false, Zw.cb .gtr 1140 10000 true, Zw.es 1007]
  | 7 => Zw.may 1137 1138 4 ++ (Zw.cb .lss 1139 1 false :: Zw.uf 1140 1139 false :: Zw.cb .gtr 1140 10000 false :: (Zw.gN 1141 1137 1138 1139 1140 ++ [Zw.seq .eql 1257 1007 false]))
  | _ => Zw.may 1137 1138 4 ++ (Zw.cb .lss 1139 1 false :: Zw.uf 1140 1139 false :: Zw.cb .gtr 1140 10000 false :: Zw.cb .eql 1139 0 false :: (Zw.gN 1141 1137 1138 1139 1140 ++ [Zw.seq .eql 1257 1007 true, Zw.seq .eql 1007 1257 true]))
/-- Shapes of the string: empty; pieces, but for 3 and 4; 3 pieces; 4 pieces. -/
def Zw.S (j : Nat) : List SE := match j with
  | 0 => [Zw.se .eql 1007 true, Zw.cnt 1007 1]
  | j + 1 => bif Nat.blt j 2 then Zw.Sx (j + 1) else bif Nat.blt j 29 then Zw.Sx (j + 3) else bif Nat.blt j 37 then Zw.P3 ++ Zw.S3 (j - 29) else Zw.P4 ++ Zw.S4 (j - 37)
def Zw.T (i j : Nat) : List SE := Zw.S0 ++ (Zw.F i ++ Zw.S j)
end
/-- What the law's calls of the library ask of its package variables. -/
structure Zw.Need (W : World) : Prop where
  tab : Lib.TabIs Tryz.prog W "internal/strconv.uint64pow10" .u64 Lib.pow10Tab
  ml : ∃ q, W.cell? ⟨Tryz.laysM146_ren.g 1, 0, none⟩ = some (.int .i64 q)
  e1 : ∃ te pe, W.cell? ⟨Tryz.laysC172_ren.g 15, 0, none⟩ = some (.iface te pe)
  e2 : ∃ te pe, W.cell? ⟨Tryz.laysC172_ren.g 16, 0, none⟩ = some (.iface te pe)
theorem Zw.rightS (sy : PT (List SE)) (mu : Mu) (W : World) (htab : Zw.Need W) (hy : SymOk (Tryz.Es Zw.mS sy) mu) : Right Tryz.prog (Tryz.Es Zw.mS sy) (lawG 8 Tryz.H0 W mu) := by
  refine right_of Tryz.nglob (by kernel_rfl) Tryz.extOk Tryz.chk (prim_of rfl fun x hx => ?_) hy
  rcases List.mem_append.1 hx with h | h
  · rcases List.mem_append.1 h with h | h
    · exact (Tryz.mOk3 x h).law
    · simp only [Zw.sL, List.mem_cons, List.mem_nil_iff, or_false] at h
      rcases h with rfl | rfl | rfl | rfl | rfl
      · exact itoa_fits ⟨Tryz.f43, Tryz.func43, by kernel_rfl, by kernel_rfl⟩ Tryz.laysM171 (by kernel_rfl) hy htab.tab
      · exact rep_fits ⟨Tryz.f44, Tryz.func44, by kernel_rfl, by kernel_rfl⟩ Tryz.lays105 Tryz.Builder_Extra_105 (by kernel_rfl) hy
      · exact join_fits ⟨Tryz.f47, Tryz.func47, by kernel_rfl, by kernel_rfl⟩ Tryz.lays156 Tryz.Builder_Extra_156 (by kernel_rfl) hy
      · exact split_fits ⟨Tryz.f49, Tryz.func49, by kernel_rfl, by kernel_rfl⟩ { Tryz.laysM146 with } Tryz.laysM146.i9 (by kernel_rfl) (by kernel_rfl) hy htab.ml
      · exact atoi_fits ⟨Tryz.f50, Tryz.func50, by kernel_rfl, by kernel_rfl⟩ Tryz.laysC172 (by kernel_rfl) hy htab.e1 htab.e2
  · exact Tryz.primsOk x h
end Go.Proofs
