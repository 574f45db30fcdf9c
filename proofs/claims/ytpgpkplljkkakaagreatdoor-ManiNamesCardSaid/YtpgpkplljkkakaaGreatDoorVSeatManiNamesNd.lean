/- The law's first state, the tables of what is known of its atoms. No conditions. -/
import Derived.Test.YtpgpkplljkkakaaGreatDoorVGlue
import Derived.Test.YtpgpkplljkkakaaGreatDoorVStrP
import Derived.Test.YtpgpkplljkkakaaGreatDoorVSeatRun3
import Derived.Test.YtpgpkplljkkakaaGreatDoorVSeatLayS
set_option linter.all false
namespace Go.Proofs
open Go Go.Vsx
set_option maxRecDepth 1000000
noncomputable section
theorem Zw.ft : (genPT 12 (fun f => Tryz.prog.funcs[f]?)).get 3 = some Tryz.f3 := by kernel_rfl
theorem Zw.envF (m : List (Nat × PrimK)) (sy : PT (List SE)) : EnvF Tryz.prog (Tryz.Es m sy) 8 := by
  have := mkEnvS_fn (P := Tryz.prog) Tryz.ext (ptOf (m ++ Tryz.primL)) sy Tryz.chk
  rw [Tryz.nglob] at this; exact this
def Zw.gr : List (Nat × AObj) := [(0, (.row ⟨[(ch 0)], 1, 0, 1, true, false, false⟩)), (1, (.row ⟨[(ch 1)], 1, 0, 1, true, false, false⟩))]
def Zw.pS : Pt := ptStart Tryz.f3
theorem Zw.kS (m : List (Nat × PrimK)) (sy : PT (List SE)) : okPt (Tryz.Es m sy) 8 Zw.pS = true := okPt_start (Zw.envF m sy) Zw.ft
def Zw.d0 : Nd := ⟨78, [(0, (ch 1000)), (1, (ch 1001))], 8, Zw.gr ++ []⟩
def Zw.sL : List (Nat × PrimK) := [(43, .itoa), (44, .rep), (47, .join)]
def Zw.mS : List (Nat × PrimK) := Tryz.m3 ++ Zw.sL
def Zw.fin (t : List SE) : Bool := leafFin (Tryz.Es Zw.mS (syOf t)) Tryz.f3 (fK (Tryz.Es Zw.mS (syOf t)) 100000 100000 Zw.pS (Zw.d0.st 8 []) 0)
def Zw.st (l : List Nat) : Value := .string ⟨(l.map UInt8.ofNat).toArray⟩
def Zw.iv (n : Int) : Value := .int .i64 n
def Zw.nA (a d : Nat) : List SE := [⟨.bin .rem, ch a, .int .i64 100020, ch d⟩, ⟨.bin .sub, ch d, .int .i64 9, ch (d + 1)⟩]
def Zw.nLo (d : Nat) : List SE := [⟨.bin .lss, ch (d + 1), .int .i64 1, .bool true⟩, ⟨.bin .geq, ch (d + 1), .int .i64 1, .bool false⟩]
def Zw.nHi (d : Nat) : List SE := [⟨.bin .lss, ch (d + 1), .int .i64 1, .bool false⟩, ⟨.bin .gtr, ch (d + 1), .int .i64 99999, .bool true⟩, ⟨.bin .geq, ch (d + 1), .int .i64 1, .bool true⟩, ⟨.bin .leq, ch (d + 1), .int .i64 99999, .bool false⟩]
def Zw.nOk (d : Nat) : List SE := [⟨.bin .lss, ch (d + 1), .int .i64 1, .bool false⟩, ⟨.bin .gtr, ch (d + 1), .int .i64 99999, .bool false⟩, ⟨.bin .geq, ch (d + 1), .int .i64 1, .bool true⟩, ⟨.bin .leq, ch (d + 1), .int .i64 99999, .bool true⟩,
  ⟨.itoa, ch (d + 1), .int .i64 0, ch (d + 2)⟩, ⟨.slen, ch (d + 2), .int .i64 0, ch (d + 3)⟩, ⟨.bin .sub, .int .i64 5, ch (d + 3), ch (d + 4)⟩, ⟨.rep, Zw.st [48], ch (d + 4), ch (d + 5)⟩, ⟨.sbin .add, Zw.st [99], ch (d + 5), ch (d + 6)⟩, ⟨.sbin .add, ch (d + 6), ch (d + 2), ch (d + 7)⟩, ⟨.sbin .neq, ch (d + 7), Zw.st [], .bool true⟩]
def Zw.dg (z s : Nat) (p : Value) : List SE := [⟨.bin .rem, ch z, .int .i64 10, ch s⟩, ⟨.bin .add, .int .i64 48, ch s, ch (s + 1)⟩, ⟨.conv .u8, ch (s + 1), .int .i64 0, ch (s + 2)⟩, ⟨.snoc, Zw.st [], ch (s + 2), ch (s + 3)⟩, ⟨.sbin .add, ch (s + 3), p, ch (s + 4)⟩, ⟨.bin .quo, ch z, .int .i64 10, ch (s + 5)⟩]
def Zw.rf : List SE := Zw.dg 1003 1030 (Zw.st []) ++ (Zw.dg 1035 1036 (ch 1034) ++ (Zw.dg 1041 1042 (ch 1040) ++ (Zw.dg 1047 1048 (ch 1046) ++ (Zw.dg 1053 1054 (ch 1052) ++ [⟨.sbin .add, Zw.st [99], ch 1058, ch 1009⟩, ⟨.sbin .neq, ch 1009, ch 1009, .bool false⟩]))))
def Zw.k (d : Nat) : Nat → List SE
  | 0 => Zw.nLo d
  | 1 => Zw.nHi d
  | _ => Zw.nOk d
def Zw.cmp (p q : Bool) : List SE := [⟨.sbin .lss, ch 1009, ch 1019, .bool p⟩, ⟨.sbin .eql, ch 1009, ch 1019, .bool q⟩, ⟨.bin .lss, ch 1003, ch 1013, .bool p⟩, ⟨.bin .eql, ch 1003, ch 1013, .bool q⟩]
def Zw.T (x y : Nat) (t : List SE) : List SE := Zw.nA 1000 1002 ++ (Zw.nA 1001 1012 ++ (Zw.k 1002 x ++ (Zw.k 1012 y ++ t)))
end
theorem Zw.rightS (sy : PT (List SE)) (mu : Mu) (W : World) (htab : Lib.TabIs Tryz.prog W "internal/strconv.uint64pow10" .u64 Lib.pow10Tab) (hy : SymOk (Tryz.Es Zw.mS sy) mu) : Right Tryz.prog (Tryz.Es Zw.mS sy) (lawG 8 Tryz.H0 W mu) := by
  refine right_of Tryz.nglob (by kernel_rfl) Tryz.extOk Tryz.chk (prim_of rfl fun x hx => ?_) hy
  rcases List.mem_append.1 hx with h | h
  · rcases List.mem_append.1 h with h | h
    · exact (Tryz.mOk3 x h).law
    · simp only [Zw.sL, List.mem_cons, List.mem_nil_iff, or_false] at h
      rcases h with rfl | rfl | rfl
      · exact itoa_fits ⟨Tryz.f43, Tryz.func43, by kernel_rfl, by kernel_rfl⟩ Tryz.laysM171 (by kernel_rfl) hy htab
      · exact rep_fits ⟨Tryz.f44, Tryz.func44, by kernel_rfl, by kernel_rfl⟩ Tryz.lays105 Tryz.Builder_Extra_105 (by kernel_rfl) hy
      · exact join_fits ⟨Tryz.f47, Tryz.func47, by kernel_rfl, by kernel_rfl⟩ Tryz.lays156 Tryz.Builder_Extra_156 (by kernel_rfl) hy
  · exact Tryz.primsOk x h
end Go.Proofs
