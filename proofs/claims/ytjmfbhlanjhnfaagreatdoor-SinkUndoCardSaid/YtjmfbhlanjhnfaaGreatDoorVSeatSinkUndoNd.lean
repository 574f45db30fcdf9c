/- The law's nodes: states at its loops' heads. No conditions. -/
import Derived.Test.YtjmfbhlanjhnfaaGreatDoorVGlue
import Derived.Test.YtjmfbhlanjhnfaaGreatDoorVSeatRun4
set_option linter.all false
namespace Go.Proofs
open Go Go.Vsx
set_option maxRecDepth 1000000
noncomputable section
theorem Zw.ft : (genPT 12 (fun f => Tryz.prog.funcs[f]?)).get 5 = some Tryz.f5 := by kernel_rfl
theorem Zw.envF (m : List (Nat × PrimK)) (sy : PT (List SE)) : EnvF Tryz.prog (Tryz.Es m sy) 8 := by
  have := mkEnvS_fn (P := Tryz.prog) Tryz.ext (ptOf (m ++ Tryz.primL)) sy Tryz.chk
  rw [Tryz.nglob] at this; exact this
noncomputable def Zw.gr : List (Nat × AObj) := [(0, (.row ⟨[(ch 0)], 1, 0, 1, true, false, false⟩)), (1, (.row ⟨[(ch 1)], 1, 0, 1, true, false, false⟩))]
noncomputable def Zw.pS : Pt := ptStart Tryz.f5
theorem Zw.kS (m : List (Nat × PrimK)) (sy : PT (List SE)) : okPt (Tryz.Es m sy) 8 Zw.pS = true := okPt_start (Zw.envF m sy) Zw.ft
noncomputable def Zw.p0 : Pt := ptOfBlock 0 Tryz.f5
theorem Zw.k0 (m : List (Nat × PrimK)) (sy : PT (List SE)) : okPt (Tryz.Es m sy) 8 Zw.p0 = true := okPt_block (Zw.envF m sy) Zw.ft 0
noncomputable def Zw.p2 : Pt := ptOfBlock 2 Tryz.f5
theorem Zw.k2 (m : List (Nat × PrimK)) (sy : PT (List SE)) : okPt (Tryz.Es m sy) 8 Zw.p2 = true := okPt_block (Zw.envF m sy) Zw.ft 2
noncomputable def Zw.d0 : Nd := ⟨76, [(0, (ch 1000)), (1, (ch 1001))], 10, Zw.gr ++ []⟩
def Zw.chR (a n : Nat) : List Value := (List.range' a n).map fun i => .chan (some i)
def Zw.itm (a n : Nat) : List Value := (List.range' a n).flatMap fun i => [.int .i64 1, .chan (some i)]
def Zw.obA : Nat → List (Nat × AObj)
  | 0 => [(11, .map [] 0)]
  | c + 1 => [(11, .map [⟨.int .i64 2, .slice (some ⟨12, 0, some 1⟩) (c + 1) (c + 1), 0⟩] 1), (12, .row ⟨Zw.itm 1002 (c + 1), 2 * (c + 1), 51, 2, false, true, false⟩)]
def Zw.dA (c : Nat) : Nd := ⟨76, [(0, ch 1000), (1, ch 1001), (6, .pointer (some ⟨10, 0, none⟩)), (7, .int .i64 (Int.ofNat c))] ++ poison 76, 13, Zw.gr ++ ([(10, .row ⟨[.map (some 11), .slice none 0 0, .int .i64 0], 3, 118, 3, false, false, false⟩)] ++ Zw.obA c)⟩
def Zw.obB (q : Nat) : Nat → List (Nat × AObj)
  | 0 => [(11, .map [⟨.int .i64 1, .slice (some ⟨12, 0, some 1⟩) 1 1, q⟩] (q + 1)), (12, .row ⟨[.int .i64 1, .int .i64 77], 2, 51, 2, false, true, false⟩)]
  | c + 1 => [(11, .map [⟨.int .i64 1, .slice (some ⟨12, 0, some 1⟩) 1 1, q⟩, ⟨.int .i64 2, .slice (some ⟨13, 0, some 1⟩) (c + 1) (c + 1), q + 1⟩] (q + 2)), (12, .row ⟨[.int .i64 1, .int .i64 77], 2, 51, 2, false, true, false⟩),
    (13, .row ⟨Zw.itm 1001 (c + 1), 2 * (c + 1), 51, 2, false, true, false⟩)]
def Zw.dB (q c : Nat) : Nd := ⟨76, [(1, ch 1000), (6, .pointer (some ⟨10, 0, none⟩)), (8, .int .i64 (Int.ofNat c))] ++ poison 76, 14, Zw.gr ++ ([(10, .row ⟨[.map (some 11), .slice none 0 0, .int .i64 0], 3, 118, 3, false, false, false⟩)] ++ Zw.obB q c)⟩
def Zw.qc : Nat → Nat
  | 0 => 0
  | _ + 1 => 1
def Zw.tN (c b : Nat) : List SE := [⟨.len, ch 1000, .int .i64 0, ch (b + 1)⟩, ⟨.bin .lss, .int .i64 (Int.ofNat c), ch (b + 1), .bool true⟩, ⟨.idx 1, ch 1000, .int .i64 (Int.ofNat c), .pointer (some ⟨8, 0, none⟩)⟩]
def Zw.tX (c b : Nat) (e : Bool) : List SE := [⟨.len, ch 1000, .int .i64 0, ch b⟩, ⟨.bin .lss, .int .i64 (Int.ofNat c), ch b, .bool e⟩]
def Zw.eN (a : Nat) : SE := ⟨.bin .neq, ch a, ch a, .bool false⟩
def Zw.rS (b : Nat) : Nat → Value
  | 0 => ch (b + 1)
  | c + 1 => .slice (some ⟨8, 0, some 1⟩) (c + 1) (c + 1)
def Zw.zS (b : Nat) : Nat → List SE
  | 0 => [⟨.len, ch (b + 1), .int .i64 0, .int .i64 0⟩]
  | _ + 1 => []
def Zw.tF (c : Nat) (e : Bool) : List SE := [⟨.len, ch 1000, .int .i64 0, ch (1001 + c)⟩, ⟨.bin .lss, .int .i64 (Int.ofNat c), ch (1001 + c), .bool e⟩, ⟨.mn, ch (1001 + c), .int .i64 10, .int .i64 (Int.ofNat c)⟩, ⟨.slTo, ch 1000, .int .i64 (Int.ofNat c), Zw.rS (1001 + c) c⟩] ++
  (Zw.zS (1001 + c) c ++ (List.range' 1001 c).map Zw.eN)
def Zw.roF : Nat → List (List Value)
  | 0 => []
  | c + 1 => [Zw.chR 1001 (c + 1)]
def Zw.LS : Option Pt := leafNext (fK (Tryz.Es Tryz.m4 (syOf [])) 100000 100000 Zw.pS (Zw.d0.st 8 []) 0) 8 (Zw.dA 0) [(10, 11), (11, 10)] [ch 1000, ch 1001]
def Zw.LA (c : Nat) : Option Pt := leafNext (fK (Tryz.Es Tryz.m4 (syOf (Zw.tN c (1002 + c)))) 100000 100000 Zw.p0 ((Zw.dA c).st 8 [[ch (1002 + c)]]) 1) 8 (Zw.dA (c + 1)) [(10, 10), (11, 11), (12, 14)] ([ch 1000, ch 1001] ++ Zw.chR 1002 (c + 1))
def Zw.LX (c : Nat) (e : Bool) : Option Pt := leafNext (fK (Tryz.Es Tryz.m4 (syOf (Zw.tX c (1002 + c) e))) 100000 100000 Zw.p0 ((Zw.dA c).st 8 []) 1) 8 (Zw.dB (Zw.qc c) 0) [(10, 10), (11, 11), (12, 14)] [ch 1001]
def Zw.LB (q c : Nat) : Option Pt := leafNext (fK (Tryz.Es Tryz.m4 (syOf (Zw.tN c (1001 + c)))) 100000 100000 Zw.p2 ((Zw.dB q c).st 8 [[ch (1001 + c)]]) 1) 8 (Zw.dB q (c + 1)) [(10, 10), (11, 11), (12, 12), (13, 15)] ([ch 1000] ++ Zw.chR 1001 (c + 1))
def Zw.fB (q c : Nat) (e : Bool) : Bool := leafFin (Tryz.Es Tryz.m4 (syOf (Zw.tF c e))) Tryz.f5 (fK (Tryz.Es Tryz.m4 (syOf (Zw.tF c e))) 100000 100000 Zw.p2 ((Zw.dB q c).st 8 (Zw.roF c)) 100)
def Zw.hA (c : Nat) : Bool := (Zw.dA c).sub 8 [[ch (1002 + c)]] (idl 8 (Zw.dA c).objs) (idA (2 + c)) ((Zw.dA c).st 8 [])
def Zw.hX (c : Nat) : Bool := (Zw.dA c).sub 8 [] (idl 8 (Zw.dA c).objs) (idA (2 + c)) ((Zw.dA c).st 8 [])
def Zw.hB (q c : Nat) : Bool := (Zw.dB q c).sub 8 [[ch (1001 + c)]] (idl 8 (Zw.dB q c).objs) (idA (1 + c)) ((Zw.dB q c).st 8 [])
def Zw.hF (q c : Nat) : Bool := (Zw.dB q c).sub 8 (Zw.roF c) (idl 8 (Zw.dB q c).objs) (idA (1 + c)) ((Zw.dB q c).st 8 [])
def Zw.al (f : Nat → Bool) : Nat → Bool := fun n => @Nat.rec (fun _ => Bool) true (fun k ih => @Bool.rec (fun _ => Bool) false ih (f k)) n
end
theorem Zw.al_get {f : Nat → Bool} : ∀ {n : Nat}, Zw.al f n = true → ∀ k, k < n → f k = true
  | 0, _, _, hk => absurd hk (Nat.not_lt_zero _)
  | n + 1, h, k, hk => by
    have h' : @Bool.rec (fun _ => Bool) false (Zw.al f n) (f n) = true := h
    cases hf : f n with
    | false => rw [hf] at h'; cases h'
    | true =>
      rw [hf] at h'
      rcases Nat.lt_or_ge k n with h2 | h2
      · exact Zw.al_get h' k h2
      · obtain rfl : k = n := by omega
        exact hf
theorem Zw.rep {α : Type} {f : Nat → α} {v : α} {N : Nat} (h : (List.range N).map f = List.replicate N v) (x : Nat) (hx : x < N) : f x = v := by
  have h1 : ((List.range N).map f)[x]? = some (f x) := by simp [hx]
  rw [h] at h1
  simp [hx] at h1
  exact h1.symm
end Go.Proofs
