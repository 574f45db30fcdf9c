/- The law's nodes: states at its loops' heads. No conditions. -/
import Derived.Test.YtegeiefgjngihaaGreatDoorVGlue
import Derived.Test.YtegeiefgjngihaaGreatDoorVSeatRun4
set_option linter.all false
namespace Go.Proofs
open Go Go.Vsx
set_option maxRecDepth 1000000
noncomputable section
theorem Zw.ft : (genPT 12 (fun f => Tryz.prog.funcs[f]?)).get 4 = some Tryz.f4 := by kernel_rfl
theorem Zw.envF (m : List (Nat × PrimK)) (sy : PT (List SE)) : EnvF Tryz.prog (Tryz.Es m sy) 8 := by
  have := mkEnvS_fn (P := Tryz.prog) Tryz.ext (ptOf (m ++ Tryz.primL)) sy Tryz.chk
  rw [Tryz.nglob] at this; exact this
noncomputable def Zw.gr : List (Nat × AObj) := [(0, (.row ⟨[(ch 0)], 1, 0, 1, true, false, false⟩)), (1, (.row ⟨[(ch 1)], 1, 0, 1, true, false, false⟩))]
noncomputable def Zw.pS : Pt := ptStart Tryz.f4
theorem Zw.kS (m : List (Nat × PrimK)) (sy : PT (List SE)) : okPt (Tryz.Es m sy) 8 Zw.pS = true := okPt_start (Zw.envF m sy) Zw.ft
noncomputable def Zw.p0 : Pt := ptOfBlock 0 Tryz.f4
theorem Zw.k0 (m : List (Nat × PrimK)) (sy : PT (List SE)) : okPt (Tryz.Es m sy) 8 Zw.p0 = true := okPt_block (Zw.envF m sy) Zw.ft 0
noncomputable def Zw.p2 : Pt := ptOfBlock 2 Tryz.f4
theorem Zw.k2 (m : List (Nat × PrimK)) (sy : PT (List SE)) : okPt (Tryz.Es m sy) 8 Zw.p2 = true := okPt_block (Zw.envF m sy) Zw.ft 2
noncomputable def Zw.d0 : Nd := ⟨104, [(0, (ch 1000)), (1, (ch 1001))], 10, Zw.gr ++ []⟩
def Zw.chR (a n : Nat) : List Value := (List.range' a n).map fun i => .chan (some i)
def Zw.itm (k a n : Nat) : List Value := (List.range' a n).flatMap fun i => [.int .i64 (Int.ofNat k), .int .i64 0, .int .i64 0, .chan (some i), .int .i64 0]
def Zw.sl (b : Nat) : Nat → Value
  | 0 => .slice none 0 0
  | c + 1 => .slice (some ⟨b, 0, some 1⟩) (c + 1) (c + 1)
def Zw.wr (k o : Nat) : Nat → List (Nat × AObj)
  | 0 => []
  | c + 1 => [(13 + k, .row ⟨Zw.chR o (c + 1), c + 1, 2, 1, false, true, false⟩), (16 + k, .row ⟨Zw.itm k o (c + 1), 5 * (c + 1), 40, 5, false, true, false⟩)]
def Zw.pl : Nat → Nat → Nat → Nat → List Value
  | 1, c0, _, _ => [Zw.sl 16 c0]
  | 2, c0, c1, _ => [Zw.sl 16 c0, Zw.sl 17 c1]
  | _, c0, c1, c2 => [Zw.sl 16 c0, Zw.sl 17 c1, Zw.sl 18 c2]
def Zw.ob (n c0 c1 c2 o : Nat) : List (Nat × AObj) := Zw.gr ++ ([(10, .row ⟨[.slice (some ⟨12, 0, none⟩) n n, .int .i64 8], 2, 91, 2, false, false, false⟩), (11, .row ⟨[Zw.sl 13 c0, Zw.sl 14 c1, Zw.sl 15 c2], 3, 36, 3, false, false, false⟩), (12, .row ⟨Zw.pl n c0 c1 c2, n, 93, 1, false, false, false⟩)] ++
  (Zw.wr 0 o c0 ++ (Zw.wr 1 (o + c0) c1 ++ Zw.wr 2 (o + c0 + c1) c2)))
def Zw.dA (n c0 c1 c2 : Nat) : Nd := ⟨104, [(0, .int .i64 (Int.ofNat n)), (1, ch 1000), (6, .pointer (some ⟨10, 0, none⟩)), (7, .pointer (some ⟨11, 0, none⟩)), (8, ch 1001)] ++ poison 104, 19, Zw.ob n c0 c1 c2 1002⟩
def Zw.dB (n c0 c1 c2 : Nat) : Nd := ⟨104, [(0, .int .i64 (Int.ofNat n)), (6, .pointer (some ⟨10, 0, none⟩)), (7, .pointer (some ⟨11, 0, none⟩)), (10, .int .i64 0)] ++ poison 104, 19, Zw.ob n c0 c1 c2 1000⟩
def Zw.cK : Nat → Nat → Nat → Nat → Nat
  | 0, c0, _, _ => c0
  | 1, _, c1, _ => c1
  | _, _, _, c2 => c2
def Zw.qK : Nat → Nat → Nat → Nat → Nat
  | 0, c0, _, _ => c0
  | 1, c0, c1, _ => c0 + c1
  | _, c0, c1, c2 => c0 + c1 + c2
def Zw.dN (n : Nat) : Nat → Nat → Nat → Nat → Nd
  | 0, c0, c1, c2 => Zw.dA n (c0 + 1) c1 c2
  | 1, c0, c1, c2 => Zw.dA n c0 (c1 + 1) c2
  | _, c0, c1, c2 => Zw.dA n c0 c1 (c2 + 1)
def Zw.idr (k : Nat) : Nat → List (Nat × Nat)
  | 0 => []
  | _ + 1 => [(13 + k, 13 + k), (16 + k, 16 + k)]
def Zw.rlI (c0 c1 c2 : Nat) : List (Nat × Nat) := [(10, 10), (11, 11), (12, 12)] ++ (Zw.idr 0 c0 ++ (Zw.idr 1 c1 ++ Zw.idr 2 c2))
def Zw.rlP : Nat → Nat → Nat → Nat → List (Nat × Nat)
  | 0, c0, c1, c2 => [(10, 10), (11, 11), (12, 12)] ++ ([(13, 23 + c0), (16, 21 + c0)] ++ (Zw.idr 1 c1 ++ Zw.idr 2 c2))
  | 1, c0, c1, c2 => [(10, 10), (11, 11), (12, 12)] ++ (Zw.idr 0 c0 ++ ([(14, 23 + c1), (17, 21 + c1)] ++ Zw.idr 2 c2))
  | _, c0, c1, c2 => [(10, 10), (11, 11), (12, 12)] ++ (Zw.idr 0 c0 ++ (Zw.idr 1 c1 ++ [(15, 23 + c2), (18, 21 + c2)]))
def Zw.eO (op : BinOp) (a : Nat) (c : Int) (r : Nat) : SE := ⟨.bin op, ch a, .int .i64 c, ch r⟩
def Zw.tP (n k b : Nat) : List SE := [⟨.len, ch 1000, .int .i64 0, ch (b + 1)⟩, ⟨.bin .lss, ch 1001, ch (b + 1), .bool true⟩, ⟨.bin .lss, ch 1001, .int .i64 20, .bool true⟩, ⟨.idx 1, ch 1000, ch 1001, .pointer (some ⟨8, 0, none⟩)⟩,
  Zw.eO .rem b (Int.ofNat n) (b + 2), Zw.eO .add (b + 2) (Int.ofNat n) (b + 3), ⟨.bin .rem, ch (b + 3), .int .i64 (Int.ofNat n), .int .i64 (Int.ofNat k)⟩, Zw.eO .add 1001 1 (b + 4)]
def Zw.tE (b : Nat) : Bool → List SE
  | false => [⟨.len, ch 1000, .int .i64 0, ch b⟩, ⟨.bin .lss, ch 1001, ch b, .bool false⟩]
  | true => [⟨.len, ch 1000, .int .i64 0, ch b⟩, ⟨.bin .lss, ch 1001, ch b, .bool true⟩, ⟨.bin .lss, ch 1001, .int .i64 20, .bool false⟩]
def Zw.eN (a : Nat) : SE := ⟨.bin .neq, ch a, ch a, .bool false⟩
def Zw.tF (s : Nat) : List SE := (List.range' 1000 s).map Zw.eN
def Zw.tS (k : Nat) : List SE := [Zw.eO .rem 1000 3 1002, Zw.eO .add 1002 3 1003, ⟨.bin .rem, ch 1003, .int .i64 3, .int .i64 (Int.ofNat k)⟩]
def Zw.LS (n : Nat) : Option Pt := leafNext (fK (Tryz.Es Tryz.m4 (syOf (Zw.tS (n - 1)))) 100000 100000 Zw.pS (Zw.d0.st 8 []) 0) 8 (Zw.dA n 0 0 0) [(10, 11), (11, 12), (12, 10)] [ch 1001, .int .i64 0]
def Zw.LP (n k c0 c1 c2 : Nat) : Option Pt :=
  @Bool.rec (fun _ => Option Pt)
    (leafNext (fK (Tryz.Es Tryz.m4 (syOf (Zw.tP n k (1002 + (c0 + c1 + c2))))) 100000 100000 Zw.p0 ((Zw.dA n c0 c1 c2).st 8 [[ch (1002 + (c0 + c1 + c2))]]) 1) 8 (Zw.dN n k c0 c1 c2) (Zw.rlP k c0 c1 c2) ([ch 1000, ch (1002 + (c0 + c1 + c2) + 4)] ++ (Zw.chR 1002 (Zw.qK k c0 c1 c2) ++ ([ch 1001] ++ Zw.chR (1002 + Zw.qK k c0 c1 c2) (c0 + c1 + c2 - Zw.qK k c0 c1 c2)))))
    (leafNext (fK (Tryz.Es Tryz.m4 (syOf (Zw.tP n k (1002 + (c0 + c1 + c2))))) 100000 100000 Zw.p0 ((Zw.dA n c0 c1 c2).st 8 [[ch (1002 + (c0 + c1 + c2))]]) 1) 8 (Zw.dA n c0 c1 c2) (Zw.rlI c0 c1 c2) ([ch 1000, ch (1002 + (c0 + c1 + c2) + 4)] ++ Zw.chR 1002 (c0 + c1 + c2)))
    (Nat.beq (Zw.cK k c0 c1 c2) 8)
def Zw.LE (n : Nat) (q : Bool) (c0 c1 c2 : Nat) : Option Pt := leafNext (fK (Tryz.Es Tryz.m4 (syOf (Zw.tE (1002 + (c0 + c1 + c2)) q))) 100000 100000 Zw.p0 ((Zw.dA n c0 c1 c2).st 8 []) 1) 8 (Zw.dB n c0 c1 c2) (Zw.rlI c0 c1 c2) (Zw.chR 1002 (c0 + c1 + c2))
def Zw.hR (n c0 c1 c2 : Nat) : Bool := (Zw.dA n c0 c1 c2).sub 8 [[ch (1002 + (c0 + c1 + c2))]] (idl 8 (Zw.dA n c0 c1 c2).objs) (idA (2 + (c0 + c1 + c2))) ((Zw.dA n c0 c1 c2).st 8 [])
def Zw.hE (n c0 c1 c2 : Nat) : Bool := (Zw.dA n c0 c1 c2).sub 8 [] (idl 8 (Zw.dA n c0 c1 c2).objs) (idA (2 + (c0 + c1 + c2))) ((Zw.dA n c0 c1 c2).st 8 [])
def Zw.hB (n c0 c1 c2 : Nat) : Bool := (Zw.dB n c0 c1 c2).sub 8 [] (idl 8 (Zw.dB n c0 c1 c2).objs) (idA (c0 + c1 + c2)) ((Zw.dB n c0 c1 c2).st 8 [])
def Zw.fB (n c0 c1 c2 : Nat) : Bool := leafFin (Tryz.Es Tryz.m4 (syOf (Zw.tF (c0 + c1 + c2)))) Tryz.f4 (fK (Tryz.Es Tryz.m4 (syOf (Zw.tF (c0 + c1 + c2)))) 100000 100000 Zw.p2 ((Zw.dB n c0 c1 c2).st 8 []) 100)
def Zw.al (f : Nat → Bool) : Nat → Bool := fun n => @Nat.rec (fun _ => Bool) true (fun k ih => @Bool.rec (fun _ => Bool) false ih (f k)) n
def Zw.ck (n c0 c1 c2 : Nat) : Bool := @Bool.rec (fun _ => Bool) false (@Bool.rec (fun _ => Bool) false (@Bool.rec (fun _ => Bool) false (Zw.fB n c0 c1 c2) (Zw.hB n c0 c1 c2)) (Zw.hE n c0 c1 c2)) (Zw.hR n c0 c1 c2)
end
theorem Zw.al_get {f : Nat → Bool} : ∀ {n : Nat}, Zw.al f n = true → ∀ k, k < n → f k = true
  | 0, _, _, hk => absurd hk (Nat.not_lt_zero _)
  | n + 1, h, k, hk => by
    have h' : @Bool.rec (fun _ => Bool) false (Zw.al f n) (f n) = true := h
    cases hf : f n with
    | false => rw [hf] at h'; cases h'
    | true =>
      rw [hf] at h'
      rcases Nat.lt_or_ge k n with h2 | h2
      · exact Zw.al_get h' k h2
      · obtain rfl : k = n := by omega
        exact hf
theorem Zw.ck_get {n c0 c1 c2 : Nat} (h : Zw.ck n c0 c1 c2 = true) : Zw.hR n c0 c1 c2 = true ∧ Zw.hE n c0 c1 c2 = true ∧ Zw.hB n c0 c1 c2 = true ∧ Zw.fB n c0 c1 c2 = true := by
  unfold Zw.ck at h
  cases h1 : Zw.hR n c0 c1 c2 with
  | false => rw [h1] at h; cases h
  | true => cases h2 : Zw.hE n c0 c1 c2 with
    | false => rw [h1, h2] at h; cases h
    | true => cases h3 : Zw.hB n c0 c1 c2 with
      | false => rw [h1, h2, h3] at h; cases h
      | true => rw [h1, h2, h3] at h; exact ⟨rfl, rfl, rfl, h⟩
theorem Zw.rep {α : Type} {f : Nat → α} {v : α} {N : Nat} (h : (List.range N).map f = List.replicate N v) (x : Nat) (hx : x < N) : f x = v := by
  have h1 : ((List.range N).map f)[x]? = some (f x) := by simp [hx]
  rw [h] at h1
  simp [hx] at h1
  exact h1.symm
end Go.Proofs
