/- The law's first state, the tables of what is known of its atoms. No conditions. -/
import Derived.Test.YtpgpkplljkkakaaGreatDoorVGlue
import Derived.Test.YtpgpkplljkkakaaGreatDoorVStrP
import Derived.Test.YtpgpkplljkkakaaGreatDoorVSeatRun3
import Derived.Test.YtpgpkplljkkakaaGreatDoorVSeatLayS
set_option linter.all false
namespace Go.Proofs
open Go Go.Vsx
set_option maxRecDepth 1000000
noncomputable section
theorem Zw.ft : (genPT 12 (fun f => Tryz.prog.funcs[f]?)).get 4 = some Tryz.f4 := by kernel_rfl
theorem Zw.envF (m : List (Nat × PrimK)) (sy : PT (List SE)) : EnvF Tryz.prog (Tryz.Es m sy) 8 := by
  have := mkEnvS_fn (P := Tryz.prog) Tryz.ext (ptOf (m ++ Tryz.primL)) sy Tryz.chk
  rw [Tryz.nglob] at this; exact this
def Zw.gr : List (Nat × AObj) := [(0, (.row ⟨[(ch 0)], 1, 0, 1, true, false, false⟩)), (1, (.row ⟨[(ch 1)], 1, 0, 1, true, false, false⟩))]
def Zw.pS : Pt := ptStart Tryz.f4
theorem Zw.kS (m : List (Nat × PrimK)) (sy : PT (List SE)) : okPt (Tryz.Es m sy) 8 Zw.pS = true := okPt_start (Zw.envF m sy) Zw.ft
def Zw.d0 : Nd := ⟨102, [(0, (ch 1000)), (1, (ch 1001)), (2, (ch 1002)), (3, (ch 1003)), (4, (ch 1004))], 8, Zw.gr ++ []⟩
def Zw.sL : List (Nat × PrimK) := [(43, .itoa), (44, .rep), (47, .join)]
def Zw.mS : List (Nat × PrimK) := Tryz.m3 ++ Zw.sL
def Zw.fin (t : List SE) : Bool := leafFin (Tryz.Es Zw.mS (syOf t)) Tryz.f4 (fK (Tryz.Es Zw.mS (syOf t)) 100000 100000 Zw.pS (Zw.d0.st 8 []) 0)
def Zw.st (l : List Nat) : Value := .string ⟨(l.map UInt8.ofNat).toArray⟩
def Zw.md (z s : Nat) (k : Int) : List SE := [⟨.bin .rem, ch z, .int .i64 k, ch s⟩, ⟨.bin .add, ch s, .int .i64 k, ch (s + 1)⟩, ⟨.bin .rem, ch (s + 1), .int .i64 k, ch (s + 2)⟩]
def Zw.in1 (s : Nat) : SE := ⟨.bin .add, .int .i64 1, ch s, ch (s + 1)⟩
def Zw.num (z s : Nat) (k : Int) : List SE := [⟨.itoa, ch z, .int .i64 0, ch s⟩, ⟨.slen, ch s, .int .i64 0, ch (s + 1)⟩, ⟨.bin .sub, .int .i64 k, ch (s + 1), ch (s + 2)⟩, ⟨.mx, ch (s + 2), .int .i64 0, ch (s + 2)⟩, ⟨.rep, Zw.st [48], ch (s + 2), ch (s + 3)⟩, ⟨.sbin .add, ch (s + 3), ch s, ch (s + 4)⟩]
def Zw.ad (x y : Value) (r : Nat) : SE := ⟨.sbin .add, x, y, ch r⟩
def Zw.dot : Value := Zw.st [46]
def Zw.one5 : Value := Zw.st [48, 48, 48, 48, 49]
def Zw.lim (f u : Nat) : List SE := [⟨.bin .lss, ch f, .int .i64 1, .bool false⟩, ⟨.bin .lss, ch u, ch f, .bool false⟩, ⟨.bin .gtr, ch u, .int .i64 10000, .bool false⟩]
def Zw.run (r : Nat) : List SE := [⟨.bin .geq, ch r, .int .i64 1, .bool true⟩, ⟨.bin .leq, ch r, .int .i64 9999, .bool true⟩]
def Zw.A1 : List SE := Zw.md 1000 1005 9000 ++ (Zw.in1 1007 :: (Zw.md 1001 1009 9000 ++ (Zw.in1 1011 :: (Zw.md 1002 1013 900 ++ (Zw.md 1003 1016 9000 ++ (Zw.in1 1018 :: (Zw.md 1004 1020 900 ++
  [⟨.bin .add, ch 1012, ch 1015, ch 1023⟩, ⟨.bin .add, ch 1019, ch 1022, ch 1024⟩, ⟨.bin .add, ch 1008, .int .i64 1, ch 1025⟩])))))))
def Zw.A2 : List SE := Zw.run 1008 ++ (Zw.run 1025 ++ (Zw.lim 1012 1023 ++ (Zw.lim 1019 1024 ++ [⟨.bin .gtr, ch 1012, .int .i64 10000, .bool false⟩])))
def Zw.A3 : List SE := Zw.num 1008 1026 4 ++ (Zw.num 1012 1031 5 ++ (Zw.num 1023 1036 5 ++ (Zw.num 1019 1041 5 ++ (Zw.num 1024 1046 5 ++ Zw.num 1025 1051 4))))
def Zw.A4 : List SE := [Zw.ad (Zw.st [116, 49, 46]) (ch 1030) 1056, Zw.ad (ch 1056) Zw.dot 1057, Zw.ad (ch 1057) (ch 1035) 1058, Zw.ad (ch 1058) Zw.dot 1059, Zw.ad (ch 1059) (ch 1040) 1060,
  Zw.ad (ch 1057) (ch 1045) 1061, Zw.ad (ch 1061) Zw.dot 1062, Zw.ad (ch 1062) (ch 1050) 1063,
  Zw.ad (Zw.st [116, 49, 46]) (ch 1055) 1064, Zw.ad (ch 1064) Zw.dot 1065, Zw.ad (ch 1065) Zw.one5 1066, Zw.ad (ch 1066) Zw.dot 1067, Zw.ad (ch 1067) Zw.one5 1068,
  Zw.ad (Zw.st [98, 49, 46]) (ch 1030) 1069, Zw.ad (ch 1069) Zw.dot 1070, Zw.ad (ch 1070) (ch 1035) 1071,
  Zw.ad (Zw.st [98, 49, 46]) (ch 1055) 1072, Zw.ad (ch 1072) Zw.dot 1073, Zw.ad (ch 1073) Zw.one5 1074,
  Zw.ad (Zw.st [116, 48, 46]) (ch 1030) 1075, Zw.ad (ch 1075) Zw.dot 1076, Zw.ad (ch 1076) (ch 1035) 1077, Zw.ad (ch 1077) Zw.dot 1078, Zw.ad (ch 1078) (ch 1040) 1079]
def Zw.ln (s : Nat) (n : Int) : SE := ⟨.slen, ch s, .int .i64 0, .int .i64 n⟩
def Zw.A5 : List SE := [Zw.ln 1060 19, Zw.ln 1063 19, Zw.ln 1068 19, Zw.ln 1079 19, Zw.ln 1071 13, Zw.ln 1074 13]
def Zw.less (x y : Nat) : SE := ⟨.sbin .lss, ch x, ch y, .bool true⟩
def Zw.A6 (q : Bool) : List SE := [⟨.sbin .neq, ch 1060, Zw.st [], .bool true⟩, ⟨.bin .geq, ch 1012, ch 1019, .bool q⟩, Zw.less 1060 1068, Zw.less 1063 1068, Zw.less 1071 1074, Zw.less 1079 1060]
def Zw.A7 : Bool → List SE
  | true => []
  | false => [Zw.less 1060 1063]
def Zw.T (q : Bool) : List SE := Zw.A1 ++ (Zw.A2 ++ (Zw.A3 ++ (Zw.A4 ++ (Zw.A5 ++ (Zw.A6 q ++ Zw.A7 q)))))
end
theorem Zw.rightS (sy : PT (List SE)) (mu : Mu) (W : World) (htab : Lib.TabIs Tryz.prog W "internal/strconv.uint64pow10" .u64 Lib.pow10Tab) (hy : SymOk (Tryz.Es Zw.mS sy) mu) : Right Tryz.prog (Tryz.Es Zw.mS sy) (lawG 8 Tryz.H0 W mu) := by
  refine right_of Tryz.nglob (by kernel_rfl) Tryz.extOk Tryz.chk (prim_of rfl fun x hx => ?_) hy
  rcases List.mem_append.1 hx with h | h
  · rcases List.mem_append.1 h with h | h
    · exact (Tryz.mOk3 x h).law
    · simp only [Zw.sL, List.mem_cons, List.mem_nil_iff, or_false] at h
      rcases h with rfl | rfl | rfl
      · exact itoa_fits ⟨Tryz.f43, Tryz.func43, by kernel_rfl, by kernel_rfl⟩ Tryz.laysM171 (by kernel_rfl) hy htab
      · exact rep_fits ⟨Tryz.f44, Tryz.func44, by kernel_rfl, by kernel_rfl⟩ Tryz.lays105 Tryz.Builder_Extra_105 (by kernel_rfl) hy
      · exact join_fits ⟨Tryz.f47, Tryz.func47, by kernel_rfl, by kernel_rfl⟩ Tryz.lays156 Tryz.Builder_Extra_156 (by kernel_rfl) hy
  · exact Tryz.primsOk x h
end Go.Proofs
