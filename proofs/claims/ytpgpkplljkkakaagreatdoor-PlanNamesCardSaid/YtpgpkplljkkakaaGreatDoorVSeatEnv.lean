/- What the executor is told of this program: its library functions without a body, the functions that are taken by a contract (slices.Insert, slices.Sorted), and that each function passes the static check. No conditions. -/
import Derived.Test.YtpgpkplljkkakaaGreatDoorVTab
import Derived.Test.YtpgpkplljkkakaaGreatDoorVIns2
import Derived.Test.YtpgpkplljkkakaaGreatDoorVSrt

import Derived.Test.YtpgpkplljkkakaaGreatDoorVSeatLay
import Derived.Test.YtpgpkplljkkakaaGreatDoorProg
import Derived.KernelRfl
set_option linter.all false
namespace Go.Proofs
open Go Go.Vsx Go.Shelf Go.RowKit
set_option maxRecDepth 1000000
noncomputable section
def Tryz.extL : List (Nat × ExtK) := [(231, .noEscape), (232, .makeNoZero 5), (235, .count), (268, .cmp), (303, .indexByte), (314, .mapsClone)]
def Tryz.ext : PT ExtK := ptOf Tryz.extL
theorem Tryz.extOk : ∀ f k, Tryz.ext.get f = some k → ExtFits Tryz.prog f k := by
  intro f k h
  have hm := ptOf_mem _ f k h
  simp only [Tryz.extL, List.mem_cons, List.mem_nil_iff, or_false, Prod.mk.injEq] at hm
  rcases hm with ⟨rfl, rfl⟩ | ⟨rfl, rfl⟩ | ⟨rfl, rfl⟩ | ⟨rfl, rfl⟩ | ⟨rfl, rfl⟩ | ⟨rfl, rfl⟩
  · exact ⟨Tryz.f231, Tryz.func231, by kernel_rfl, by kernel_rfl, by kernel_rfl, show Extern.find Tryz.f231 = some Extern.AbiNoEscape.same from by kernel_rfl⟩
  · exact ⟨Tryz.f232, Tryz.func232, by kernel_rfl, by kernel_rfl, by kernel_rfl, ⟨#[3], 32, by kernel_rfl, Tryz.underlying32⟩⟩
  · exact ⟨Tryz.f235, Tryz.func235, by kernel_rfl, by kernel_rfl, by kernel_rfl, show Extern.find Tryz.f235 = some Extern.BytealgCount.count from by kernel_rfl⟩
  · exact ⟨Tryz.f268, Tryz.func268, by kernel_rfl, by kernel_rfl, by kernel_rfl, show Extern.find Tryz.f268 = some Extern.BytealgCompare.compare from by kernel_rfl⟩
  · exact ⟨Tryz.f303, Tryz.func303, by kernel_rfl, by kernel_rfl, by kernel_rfl, show Extern.find Tryz.f303 = some Extern.BytealgIndexByte.indexByte from by kernel_rfl⟩
  · exact ⟨Tryz.f314, Tryz.func314, by kernel_rfl, by kernel_rfl, by kernel_rfl, show Extern.find Tryz.f314 = some Extern.MapsClone.clone from by kernel_rfl⟩
def Tryz.gsL : List Nat := [0, 1]
def Tryz.r143 : Ren := ⟨fun | 22 => 143 | 29 => 200 | 30 => 201 | n => n, fun | 24 => 105 | 9 => 225 | n => n, fun n => n⟩
theorem Tryz.ins143 : InsFn Tryz.prog Tryz.r143 Tryz.f143 := by
  refine ⟨Tryz.func143, by kernel_rfl, Tryz.ntmps143, by kernel_rfl, ov_of (P := Tryz.prog) (f := 200) Tryz.func200 (by kernel_rfl) (by kernel_rfl) (by kernel_rfl) (tS := 105) (tR := 4) (e := 225) (by kernel_rfl) Tryz.underlying105 Tryz.sizeOf225, ?_⟩
  intro k i0 z h1 h2 h3 h4
  exact { mixed := by kernel_rfl, t3 := Tryz.underlying3, t4 := Tryz.underlying4, t24 := Tryz.underlying105, i9 := h1, s9 := h2, z9 := h3, zs := h4, zero3 := Tryz.zeroValue3, zero4 := Tryz.zeroValue4, agg3 := Tryz.isAgg3, agg4 := Tryz.isAgg4, agg24 := Tryz.isAgg105, size3 := Tryz.sizeOf3, size4 := Tryz.sizeOf4, size24 := Tryz.sizeOf105 }
theorem Tryz.prim143 {ext : PT ExtK} {prim : PT PrimK} {sy : PT (List SE)} {G : GS} : PrimFits Tryz.prog (mkEnvS Tryz.prog ext prim sy) G 143 (.insert 105) :=
  ⟨⟨Tryz.f143, Tryz.func143, by kernel_rfl, by kernel_rfl⟩, fun args H v H' h => insert_ok (ρ := Tryz.r143) (mkEnvS_ty Tryz.prog ext prim sy) Tryz.ins143 h (by kernel_rfl) (by kernel_rfl)⟩
def Tryz.r205 : Ren := ⟨fun | 22 => 205 | 29 => 246 | 30 => 247 | n => n, fun | 24 => 208 | 9 => 294 | n => n, fun n => n⟩
theorem Tryz.ins205 : InsFn Tryz.prog Tryz.r205 Tryz.f205 := by
  refine ⟨Tryz.func205, by kernel_rfl, Tryz.ntmps205, by kernel_rfl, ov_of (P := Tryz.prog) (f := 246) Tryz.func246 (by kernel_rfl) (by kernel_rfl) (by kernel_rfl) (tS := 208) (tR := 4) (e := 294) (by kernel_rfl) Tryz.underlying208 Tryz.sizeOf294, ?_⟩
  intro k i0 z h1 h2 h3 h4
  exact { mixed := by kernel_rfl, t3 := Tryz.underlying3, t4 := Tryz.underlying4, t24 := Tryz.underlying208, i9 := h1, s9 := h2, z9 := h3, zs := h4, zero3 := Tryz.zeroValue3, zero4 := Tryz.zeroValue4, agg3 := Tryz.isAgg3, agg4 := Tryz.isAgg4, agg24 := Tryz.isAgg208, size3 := Tryz.sizeOf3, size4 := Tryz.sizeOf4, size24 := Tryz.sizeOf208 }
theorem Tryz.prim205 {ext : PT ExtK} {prim : PT PrimK} {sy : PT (List SE)} {G : GS} : PrimFits Tryz.prog (mkEnvS Tryz.prog ext prim sy) G 205 (.insert 208) :=
  ⟨⟨Tryz.f205, Tryz.func205, by kernel_rfl, by kernel_rfl⟩, fun args H v H' h => insert_ok (ρ := Tryz.r205) (mkEnvS_ty Tryz.prog ext prim sy) Tryz.ins205 h (by kernel_rfl) (by kernel_rfl)⟩
def Tryz.r207 : Ren := ⟨fun | 22 => 207 | 29 => 248 | 30 => 249 | n => n, fun | 24 => 211 | 9 => 291 | n => n, fun n => n⟩
theorem Tryz.ins207 : InsFn Tryz.prog Tryz.r207 Tryz.f207 := by
  refine ⟨Tryz.func207, by kernel_rfl, Tryz.ntmps207, by kernel_rfl, ov_of (P := Tryz.prog) (f := 248) Tryz.func248 (by kernel_rfl) (by kernel_rfl) (by kernel_rfl) (tS := 211) (tR := 4) (e := 291) (by kernel_rfl) Tryz.underlying211 Tryz.sizeOf291, ?_⟩
  intro k i0 z h1 h2 h3 h4
  exact { mixed := by kernel_rfl, t3 := Tryz.underlying3, t4 := Tryz.underlying4, t24 := Tryz.underlying211, i9 := h1, s9 := h2, z9 := h3, zs := h4, zero3 := Tryz.zeroValue3, zero4 := Tryz.zeroValue4, agg3 := Tryz.isAgg3, agg4 := Tryz.isAgg4, agg24 := Tryz.isAgg211, size3 := Tryz.sizeOf3, size4 := Tryz.sizeOf4, size24 := Tryz.sizeOf211 }
theorem Tryz.prim207 {ext : PT ExtK} {prim : PT PrimK} {sy : PT (List SE)} {G : GS} : PrimFits Tryz.prog (mkEnvS Tryz.prog ext prim sy) G 207 (.insert 211) :=
  ⟨⟨Tryz.f207, Tryz.func207, by kernel_rfl, by kernel_rfl⟩, fun args H v H' h => insert_ok (ρ := Tryz.r207) (mkEnvS_ty Tryz.prog ext prim sy) Tryz.ins207 h (by kernel_rfl) (by kernel_rfl)⟩
def Tryz.r210 : Ren := ⟨fun | 22 => 210 | 29 => 250 | 30 => 251 | n => n, fun | 24 => 214 | 9 => 300 | n => n, fun n => n⟩
theorem Tryz.ins210 : InsFn Tryz.prog Tryz.r210 Tryz.f210 := by
  refine ⟨Tryz.func210, by kernel_rfl, Tryz.ntmps210, by kernel_rfl, ov_of (P := Tryz.prog) (f := 250) Tryz.func250 (by kernel_rfl) (by kernel_rfl) (by kernel_rfl) (tS := 214) (tR := 4) (e := 300) (by kernel_rfl) Tryz.underlying214 Tryz.sizeOf300, ?_⟩
  intro k i0 z h1 h2 h3 h4
  exact { mixed := by kernel_rfl, t3 := Tryz.underlying3, t4 := Tryz.underlying4, t24 := Tryz.underlying214, i9 := h1, s9 := h2, z9 := h3, zs := h4, zero3 := Tryz.zeroValue3, zero4 := Tryz.zeroValue4, agg3 := Tryz.isAgg3, agg4 := Tryz.isAgg4, agg24 := Tryz.isAgg214, size3 := Tryz.sizeOf3, size4 := Tryz.sizeOf4, size24 := Tryz.sizeOf214 }
theorem Tryz.prim210 {ext : PT ExtK} {prim : PT PrimK} {sy : PT (List SE)} {G : GS} : PrimFits Tryz.prog (mkEnvS Tryz.prog ext prim sy) G 210 (.insert 214) :=
  ⟨⟨Tryz.f210, Tryz.func210, by kernel_rfl, by kernel_rfl⟩, fun args H v H' h => insert_ok (ρ := Tryz.r210) (mkEnvS_ty Tryz.prog ext prim sy) Tryz.ins210 h (by kernel_rfl) (by kernel_rfl)⟩
def Tryz.r212 : Ren := ⟨fun | 22 => 212 | 29 => 252 | 30 => 253 | n => n, fun | 24 => 146 | 9 => 180 | n => n, fun n => n⟩
theorem Tryz.ins212 : InsFn Tryz.prog Tryz.r212 Tryz.f212 := by
  refine ⟨Tryz.func212, by kernel_rfl, Tryz.ntmps212, by kernel_rfl, ov_of (P := Tryz.prog) (f := 252) Tryz.func252 (by kernel_rfl) (by kernel_rfl) (by kernel_rfl) (tS := 146) (tR := 4) (e := 180) (by kernel_rfl) Tryz.underlying146 Tryz.sizeOf180, ?_⟩
  intro k i0 z h1 h2 h3 h4
  exact { mixed := by kernel_rfl, t3 := Tryz.underlying3, t4 := Tryz.underlying4, t24 := Tryz.underlying146, i9 := h1, s9 := h2, z9 := h3, zs := h4, zero3 := Tryz.zeroValue3, zero4 := Tryz.zeroValue4, agg3 := Tryz.isAgg3, agg4 := Tryz.isAgg4, agg24 := Tryz.isAgg146, size3 := Tryz.sizeOf3, size4 := Tryz.sizeOf4, size24 := Tryz.sizeOf146 }
theorem Tryz.prim212 {ext : PT ExtK} {prim : PT PrimK} {sy : PT (List SE)} {G : GS} : PrimFits Tryz.prog (mkEnvS Tryz.prog ext prim sy) G 212 (.insert 146) :=
  ⟨⟨Tryz.f212, Tryz.func212, by kernel_rfl, by kernel_rfl⟩, fun args H v H' h => insert_ok (ρ := Tryz.r212) (mkEnvS_ty Tryz.prog ext prim sy) Tryz.ins212 h (by kernel_rfl) (by kernel_rfl)⟩
end
noncomputable section
theorem Tryz.sorts (m : Nat) : AnyZ.SortsIn Tryz.prog Tryz.sortedA_ren Fence.wide m :=
  ⟨fun blk off cap ss W hH hblk hsz => callsIn_wide.2 (AnyM.slices_Sort_string Tryz.sortA blk off cap ss W hH hblk hsz), fun p cap W => callsIn_wide.2 (AnyM.slices_Sort_string_none Tryz.sortA p cap W)⟩
theorem Tryz.srt224 : SrtFn Tryz.prog Tryz.keys224_ren Tryz.sortedA_ren :=
  ⟨{ Tryz.keys224 with }, Tryz.sortedA, Tryz.sorts, enters_of Tryz.func197 (by kernel_rfl) rfl, enters_of Tryz.func224 (by kernel_rfl) rfl, by kernel_rfl⟩
theorem Tryz.srt243 : SrtFn Tryz.prog Tryz.keys243_ren Tryz.sortedA_ren :=
  ⟨{ Tryz.keys243 with }, Tryz.sortedA, Tryz.sorts, enters_of Tryz.func197 (by kernel_rfl) rfl, enters_of Tryz.func243 (by kernel_rfl) rfl, by kernel_rfl⟩
theorem Tryz.prim168 {ext : PT ExtK} {prim : PT PrimK} {sy : PT (List SE)} {G : GS} : PrimFits Tryz.prog (mkEnvS Tryz.prog ext prim sy) G 168 (.sortedKeys 9 [224, 243]) :=
  ⟨⟨Tryz.f168, Tryz.func168, by kernel_rfl, by kernel_rfl⟩, fun args H v H' h => sorted_any (ρs := Tryz.sortedA_ren) (l := [Tryz.keys224_ren, Tryz.keys243_ren]) (by
    intro r hr
    simp only [List.mem_cons, List.mem_nil_iff, or_false] at hr
    rcases hr with rfl | rfl
    · exact Tryz.srt224
    · exact Tryz.srt243
    ) h⟩
def Tryz.primL : List (Nat × PrimK) := [(143, .insert 105), (205, .insert 208), (207, .insert 211), (210, .insert 214), (212, .insert 146), (168, .sortedKeys 9 [224, 243])]
theorem Tryz.primsOk {ext : PT ExtK} {prim : PT PrimK} {sy : PT (List SE)} {G : GS} : ∀ x ∈ Tryz.primL, PrimFits Tryz.prog (mkEnvS Tryz.prog ext prim sy) G x.1 x.2 := by
  intro x hx
  simp only [Tryz.primL, List.mem_cons, List.mem_nil_iff, or_false] at hx
  rcases hx with rfl | rfl | rfl | rfl | rfl | rfl
  · exact Tryz.prim143
  · exact Tryz.prim205
  · exact Tryz.prim207
  · exact Tryz.prim210
  · exact Tryz.prim212
  · exact Tryz.prim168
theorem Tryz.chk0 : (List.range' 0 60).all (chkF Tryz.prog) = true := by kernel_rfl
theorem Tryz.chk1 : (List.range' 60 60).all (chkF Tryz.prog) = true := by kernel_rfl
theorem Tryz.chk2 : (List.range' 120 60).all (chkF Tryz.prog) = true := by kernel_rfl
theorem Tryz.chk3 : (List.range' 180 60).all (chkF Tryz.prog) = true := by kernel_rfl
theorem Tryz.chk4 : (List.range' 240 60).all (chkF Tryz.prog) = true := by kernel_rfl
theorem Tryz.chk5 : (List.range' 300 60).all (chkF Tryz.prog) = true := by kernel_rfl
theorem Tryz.nfuncs : Tryz.prog.funcs.size = 349 := by kernel_rfl
theorem Tryz.nglob : Tryz.prog.globals.size = 8 := by kernel_rfl
theorem Tryz.chk : ∀ f, f < Tryz.prog.funcs.size → chkF Tryz.prog f = true := by
  intro f hf
  rw [Tryz.nfuncs] at hf
  by_cases h0 : f < 60
  · exact all_range Tryz.chk0 f (by omega) (by omega)
  by_cases h1 : f < 120
  · exact all_range Tryz.chk1 f (by omega) (by omega)
  by_cases h2 : f < 180
  · exact all_range Tryz.chk2 f (by omega) (by omega)
  by_cases h3 : f < 240
  · exact all_range Tryz.chk3 f (by omega) (by omega)
  by_cases h4 : f < 300
  · exact all_range Tryz.chk4 f (by omega) (by omega)
  exact all_range Tryz.chk5 f (by omega) (by omega)
def Tryz.gtL : List (Nat × List Value) := []
def Tryz.H0 : Heap := firstHeapT 8 Tryz.gsL Tryz.gtL
def Tryz.Gm (mu : Mu) : GS := initGSm 8 Tryz.H0 mu
def Tryz.Es (m : List (Nat × PrimK)) (sy : PT (List SE)) : Go.Vsx.Env := mkEnvS Tryz.prog Tryz.ext (ptOf (m ++ Tryz.primL)) sy
theorem Tryz.callOkS (m : List (Nat × PrimK)) (sy : PT (List SE)) (mu : Mu) (hm : ∀ x ∈ m, PrimFits Tryz.prog (Tryz.Es m sy) (Tryz.Gm mu) x.1 x.2) (hy : SymOk (Tryz.Es m sy) mu) (n : Nat) :
    CallOk Tryz.prog (Tryz.Gm mu) (callE (Tryz.Es m sy) (execC (Tryz.Es m sy) n)) :=
  Vsx.callOkS Tryz.nglob (by kernel_rfl) Tryz.extOk Tryz.chk (prim_of rfl fun x hx => (List.mem_append.1 hx).elim (hm x) (Tryz.primsOk x)) hy n
theorem Tryz.callOk (m : List (Nat × PrimK)) (hm : ∀ x ∈ m, PrimFits Tryz.prog (Tryz.Es m .leaf) (Tryz.Gm noMu) x.1 x.2) (n : Nat) :
    CallOk Tryz.prog (Tryz.Gm noMu) (callE (Tryz.Es m .leaf) (execC (Tryz.Es m .leaf) n)) := Tryz.callOkS m .leaf noMu hm (.none rfl) n
theorem Tryz.right (m : List (Nat × PrimK)) (sy : PT (List SE)) (mu : Mu) (W : World) (hm : ∀ x ∈ m, PrimFits Tryz.prog (Tryz.Es m sy) (Tryz.Gm mu) x.1 x.2) (hy : SymOk (Tryz.Es m sy) mu) :
    Right Tryz.prog (Tryz.Es m sy) (lawG 8 Tryz.H0 W mu) :=
  right_of Tryz.nglob (by kernel_rfl) Tryz.extOk Tryz.chk (prim_of rfl fun x hx => (List.mem_append.1 hx).elim (fun h => (hm x h).law) (Tryz.primsOk x)) hy
end

end Go.Proofs
