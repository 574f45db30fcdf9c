/- The law's nodes: states at its loops' heads. No conditions. -/
import Derived.Test.YtjfjhmdhchjjdaaGreatDoorVGlue
import Derived.Test.YtjfjhmdhchjjdaaGreatDoorVSeatRun3
set_option linter.all false
namespace Go.Proofs
open Go Go.Vsx
set_option maxRecDepth 1000000
noncomputable section
theorem Zw.ft : (genPT 12 (fun f => Tryz.prog.funcs[f]?)).get 7 = some Tryz.f7 := by kernel_rfl
theorem Zw.envF (m : List (Nat × PrimK)) (sy : PT (List SE)) : EnvF Tryz.prog (Tryz.Es m sy) 8 := by
  have := mkEnvS_fn (P := Tryz.prog) Tryz.ext (ptOf (m ++ Tryz.primL)) sy Tryz.chk
  rw [Tryz.nglob] at this; exact this
noncomputable def Zw.gr : List (Nat × AObj) := [(1, (.row ⟨[(ch 1)], 1, 0, 1, true, false, false⟩)), (2, (.row ⟨[(ch 2)], 1, 0, 1, true, false, false⟩))]
noncomputable def Zw.pS : Pt := ptStart Tryz.f7
theorem Zw.kS (m : List (Nat × PrimK)) (sy : PT (List SE)) : okPt (Tryz.Es m sy) 8 Zw.pS = true := okPt_start (Zw.envF m sy) Zw.ft
noncomputable def Zw.d0 : Nd := ⟨65, [(0, (ch 1000)), (1, (ch 1001))], 8, Zw.gr ++ []⟩
inductive Zw.In where
  | b (op : BinOp) (x y : Value)
  | c (k : IntKind) (x : Value)
def Zw.asmT : Nat → List Zw.In → List SE
  | _, [] => []
  | s, .b op x y :: l => ⟨.bin op, x, y, ch s⟩ :: Zw.asmT (s + 1) l
  | s, .c k x :: l => ⟨.conv k, x, .int .i64 0, ch s⟩ :: Zw.asmT (s + 1) l
def Zw.cat (f : Nat → List SE) : Nat → List SE
  | 0 => []
  | n + 1 => Zw.cat f n ++ f n
def Zw.dA (z s : Nat) : Nat → Nat
  | 0 => z
  | i + 1 => s + 4 * i + 3
def Zw.bA (s L i : Nat) : Nat := bif Nat.blt (i + 1) L then s + 4 * i + 2 else s + 4 * i + 1
def Zw.putE (z s L i : Nat) : List SE := bif Nat.blt (i + 1) L then
    [⟨.bin .geq, ch (Zw.dA z s i), .int .u64 128, .bool true⟩, ⟨.bin .rem, ch (Zw.dA z s i), .int .u64 128, ch (s + 4 * i)⟩, ⟨.conv .u8, ch (s + 4 * i), .int .i64 0, ch (s + 4 * i + 1)⟩, ⟨.bin .or, ch (s + 4 * i + 1), .int .u8 128, ch (s + 4 * i + 2)⟩, ⟨.bin .shr, ch (Zw.dA z s i), .int .u64 7, ch (s + 4 * i + 3)⟩]
  else [⟨.bin .geq, ch (Zw.dA z s i), .int .u64 128, .bool false⟩, ⟨.conv .u8, ch (Zw.dA z s i), .int .i64 0, ch (s + 4 * i + 1)⟩]
def Zw.acc (t : Nat) : Nat → Value
  | 0 => .int .u64 0
  | i + 1 => ch (t + 4 * i + 3)
def Zw.getE (z s t L i : Nat) : List SE :=
  [⟨.bin .rem, ch (Zw.bA s L i), .int .u8 128, ch (t + 4 * i)⟩, ⟨.conv .u64, ch (t + 4 * i), .int .i64 0, ch (t + 4 * i + 1)⟩, ⟨.bin .shl, ch (t + 4 * i + 1), .int .i64 (Int.ofNat (7 * i)), ch (t + 4 * i + 2)⟩,
    ⟨.bin .or, Zw.acc t i, ch (t + 4 * i + 2), ch (bif Nat.blt (i + 1) L then t + 4 * i + 3 else z)⟩, ⟨.bin .geq, ch (Zw.bA s L i), .int .u8 128, .bool (Nat.blt (i + 1) L)⟩] ++
  ((bif Nat.blt (i + 1) L then [] else bif Nat.beq i 0 then [] else [⟨.bin .eql, ch (t + 4 * i + 1), .int .u64 0, .bool false⟩]) ++ (bif Nat.beq i 9 then [⟨.bin .gtr, ch (Zw.bA s L i), .int .u8 1, .bool false⟩] else []))
def Zw.sumB : Nat → Value → Value → List Value → List Zw.In
  | n, a, b, [] => [.b .shl b (.int .u64 16), .b .or (ch n) a, .b .shr (ch (n + 1)) (.int .i64 0), .c .u8 (ch (n + 2)), .b .shr (ch (n + 1)) (.int .i64 8), .c .u8 (ch (n + 4)), .b .shr (ch (n + 1)) (.int .i64 16), .c .u8 (ch (n + 6)), .b .shr (ch (n + 1)) (.int .i64 24), .c .u8 (ch (n + 8))]
  | n, a, b, .int _ x :: l => [.b .add a (.int .u32 x), .b .rem (ch n) (.int .u32 65521), .b .add b (ch (n + 1)), .b .rem (ch (n + 2)) (.int .u32 65521)] ++ Zw.sumB (n + 4) (ch (n + 1)) (ch (n + 3)) l
  | n, a, b, x :: l => [.c .u32 x, .b .add a (ch n), .b .rem (ch (n + 1)) (.int .u32 65521), .b .add b (ch (n + 2)), .b .rem (ch (n + 3)) (.int .u32 65521)] ++ Zw.sumB (n + 5) (ch (n + 2)) (ch (n + 4)) l
def Zw.bys (s L : Nat) : Nat → List Value
  | 0 => []
  | n + 1 => Zw.bys s L n ++ [ch (Zw.bA s L n)]
def Zw.eN (a : Nat) : SE := ⟨.bin .neq, ch a, ch a, .bool false⟩
def Zw.p (c : Nat) : Nat := 1005 + 8 * c
def Zw.q (c L : Nat) : Nat := Zw.p c + 5 + 8 * L
def Zw.nH (c : Nat) : Nat := 5 * c + 14
def Zw.ins (c L : Nat) : List Zw.In := Zw.sumB (Zw.q c L + 2) (.int .u32 67) (.int .u32 67) (Zw.bys 1005 c c ++ [.int .u8 1]) ++ Zw.sumB (Zw.q c L + 2 + Zw.nH c) (.int .u32 8) (.int .u32 19) (Zw.bys (Zw.p c + 5) L L ++ [.int .u8 0, .int .u8 0])
def Zw.nes (c L : Nat) : List Nat := [Zw.q c L + 2 + (5 * c + 4) + 3, Zw.q c L + 2 + (5 * c + 4) + 5, Zw.q c L + 2 + (5 * c + 4) + 7, Zw.q c L + 2 + (5 * c + 4) + 9,
  Zw.q c L + 2 + Zw.nH c + (5 * L + 8) + 3, Zw.q c L + 2 + Zw.nH c + (5 * L + 8) + 5, Zw.q c L + 2 + Zw.nH c + (5 * L + 8) + 7, Zw.q c L + 2 + Zw.nH c + (5 * L + 8) + 9]
def Zw.sg : Bool → Int
  | false => 0
  | true => 1
def Zw.T (c L : Nat) (g : Bool) : List SE :=
  [⟨.bin .rem, ch 1000, .int .i64 10010, ch 1002⟩, ⟨.bin .sub, ch 1002, .int .i64 4, ch 1003⟩, ⟨.bin .lss, ch 1003, .int .i64 0, .bool false⟩, ⟨.bin .gtr, ch 1003, .int .i64 10000, .bool false⟩, ⟨.conv .u64, ch 1003, .int .i64 0, ch 1004⟩, ⟨.bin .gtr, ch 1004, .int .u64 10000, .bool false⟩, ⟨.conv .i64, ch 1004, .int .i64 0, ch 1003⟩] ++
  (Zw.cat (Zw.putE 1004 1005 c) c ++ (Zw.cat (Zw.getE 1004 1005 (1005 + 4 * c) c) c ++
  ([⟨.conv .u64, ch 1001, .int .i64 0, ch (Zw.p c)⟩, ⟨.bin .shl, ch (Zw.p c), .int .u64 1, ch (Zw.p c + 1)⟩, ⟨.bin .shr, ch 1001, .int .u64 63, ch (Zw.p c + 2)⟩, ⟨.conv .u64, ch (Zw.p c + 2), .int .i64 0, ch (Zw.p c + 3)⟩, ⟨.bin .xor, ch (Zw.p c + 1), ch (Zw.p c + 3), ch (Zw.p c + 4)⟩] ++
  (Zw.cat (Zw.putE (Zw.p c + 4) (Zw.p c + 5) L) L ++ (Zw.cat (Zw.getE (Zw.p c + 4) (Zw.p c + 5) (Zw.p c + 5 + 4 * L) L) L ++
  ([⟨.bin .shr, ch (Zw.p c + 4), .int .u64 1, ch (Zw.q c L)⟩, ⟨.conv .i64, ch (Zw.q c L), .int .i64 0, ch (Zw.q c L + 1)⟩, ⟨.bin .and, ch (Zw.p c + 4), .int .u64 1, .int .u64 (Zw.sg g)⟩, ⟨.bin .xor, ch (Zw.q c L + 1), .int .i64 (- Zw.sg g), ch 1001⟩, ⟨.bin .eql, ch 1003, ch 1003, .bool true⟩, ⟨.bin .eql, ch 1001, ch 1001, .bool true⟩] ++
  (Zw.asmT (Zw.q c L + 2) (Zw.ins c L) ++ (Zw.nes c L).map Zw.eN)))))))

def Zw.e0 : List SE := [⟨.bin .rem, ch 1000, .int .i64 10010, ch 1002⟩, ⟨.bin .sub, ch 1002, .int .i64 4, ch 1003⟩, ⟨.bin .lss, ch 1003, .int .i64 0, .bool true⟩]
def Zw.e1 : List SE := [⟨.bin .rem, ch 1000, .int .i64 10010, ch 1002⟩, ⟨.bin .sub, ch 1002, .int .i64 4, ch 1003⟩, ⟨.bin .lss, ch 1003, .int .i64 0, .bool false⟩, ⟨.bin .gtr, ch 1003, .int .i64 10000, .bool true⟩]
def Zw.fin (t : List SE) : Bool := leafFin (Tryz.Es Tryz.m3 (syOf t)) Tryz.f7 (fK (Tryz.Es Tryz.m3 (syOf t)) 100000 100000 Zw.pS (Zw.d0.st 8 []) 0)
def Zw.kd (ks : List IntKind) : Value → Option IntKind
  | .int k _ => some k
  | .chan (some a) => bif Nat.ble 1000 a then ks[a - 1000]? else none
  | _ => none
def Zw.stepK : BinOp → IntKind → IntKind → Value → Option IntKind
  | .add, k, k', _ => if k = k' then some k else none
  | .or, k, k', _ => if k = k' then some k else none
  | .rem, k, k', .int _ c => if k = k' then (if c = 0 then none else some k) else none
  | .shl, k, _, .int _ c => if c < 0 then none else some k
  | .shr, k, _, .int _ c => if c < 0 then none else some k
  | _, _, _, _ => none
def Zw.chk : List IntKind → List Zw.In → Option (List IntKind)
  | ks, [] => some ks
  | ks, .b op x y :: l => match Zw.kd ks x, Zw.kd ks y with
    | some k, some k' => match Zw.stepK op k k' y with
      | some k2 => Zw.chk (ks ++ [k2]) l
      | none => none
    | _, _ => none
  | ks, .c k x :: l => match Zw.kd ks x with
    | some _ => Zw.chk (ks ++ [k]) l
    | none => none
def Zw.pk : Nat → List IntKind
  | 0 => []
  | n + 1 => Zw.pk n ++ [.u64, .u8, .u8, .u64]
def Zw.gk : Nat → List IntKind
  | 0 => []
  | n + 1 => Zw.gk n ++ [.u8, .u64, .u64, .u64]
def Zw.ks (c L : Nat) : List IntKind := [.i64, .i64] ++ ([.i64, .i64, .u64] ++ (Zw.pk c ++ (Zw.gk c ++ ([.u64, .u64, .i64, .u64, .u64] ++ (Zw.pk L ++ (Zw.gk L ++ [.u64, .i64]))))))
def Zw.chkN (c L : Nat) : Bool := match Zw.chk (Zw.ks c L) (Zw.ins c L) with
  | some k' => (Zw.nes c L).all fun x => match Zw.kd k' (ch x) with | some _ => true | none => false
  | none => false
end
end Go.Proofs
