/- What the executor is told of this program: its library functions without a body, the functions that are taken by a contract (slices.Insert, slices.Sorted), and that each function passes the static check. No conditions. -/
import Derived.Test.YtbbndocaocmgeaaGreatDoorVMemo
import Derived.Test.YtbbndocaocmgeaaGreatDoorVIns2
import Derived.Test.YtbbndocaocmgeaaGreatDoorVSrt
import Derived.Test.YtbbndocaocmgeaaGreatDoorVSeatLay
import Derived.Test.YtbbndocaocmgeaaGreatDoorProg
import Derived.KernelRfl
set_option linter.all false
namespace Go.Proofs
open Go Go.Vsx Go.Shelf Go.RowKit
set_option maxRecDepth 1000000
noncomputable section
def Tryz.extL : List (Nat × ExtK) := [(188, .mapsClone), (289, .count), (294, .noEscape), (295, .makeNoZero 5), (297, .cmp), (325, .indexByte)]
def Tryz.ext : PT ExtK := ptOf Tryz.extL
theorem Tryz.extOk : ∀ f k, Tryz.ext.get f = some k → ExtFits Tryz.prog f k := by
  intro f k h
  have hm := ptOf_mem _ f k h
  simp only [Tryz.extL, List.mem_cons, List.mem_nil_iff, or_false, Prod.mk.injEq] at hm
  rcases hm with ⟨rfl, rfl⟩ | ⟨rfl, rfl⟩ | ⟨rfl, rfl⟩ | ⟨rfl, rfl⟩ | ⟨rfl, rfl⟩ | ⟨rfl, rfl⟩
  · exact ⟨Tryz.f188, Tryz.func188, by kernel_rfl, by kernel_rfl, by kernel_rfl, show Extern.find Tryz.f188 = some Extern.MapsClone.clone from by kernel_rfl⟩
  · exact ⟨Tryz.f289, Tryz.func289, by kernel_rfl, by kernel_rfl, by kernel_rfl, show Extern.find Tryz.f289 = some Extern.BytealgCount.count from by kernel_rfl⟩
  · exact ⟨Tryz.f294, Tryz.func294, by kernel_rfl, by kernel_rfl, by kernel_rfl, show Extern.find Tryz.f294 = some Extern.AbiNoEscape.same from by kernel_rfl⟩
  · exact ⟨Tryz.f295, Tryz.func295, by kernel_rfl, by kernel_rfl, by kernel_rfl, ⟨#[3], 73, by kernel_rfl, Tryz.underlying73⟩⟩
  · exact ⟨Tryz.f297, Tryz.func297, by kernel_rfl, by kernel_rfl, by kernel_rfl, show Extern.find Tryz.f297 = some Extern.BytealgCompare.compare from by kernel_rfl⟩
  · exact ⟨Tryz.f325, Tryz.func325, by kernel_rfl, by kernel_rfl, by kernel_rfl, show Extern.find Tryz.f325 = some Extern.BytealgIndexByte.indexByte from by kernel_rfl⟩
def Tryz.gsL : List Nat := [0, 1]
def Tryz.G : GS := initGS 8 (firstHeap 8 Tryz.gsL)
def Tryz.r162 : Ren := ⟨fun | 22 => 162 | 29 => 213 | 30 => 214 | n => n, fun | 24 => 120 | 9 => 241 | n => n, fun n => n⟩
theorem Tryz.ins162 : InsFn Tryz.prog Tryz.r162 Tryz.f162 := by
  refine ⟨Tryz.func162, by kernel_rfl, Tryz.ntmps162, by kernel_rfl, ov_of (P := Tryz.prog) (f := 213) Tryz.func213 (by kernel_rfl) (by kernel_rfl) (by kernel_rfl) (tS := 120) (tR := 4) (e := 241) (by kernel_rfl) Tryz.underlying120 Tryz.sizeOf241, ?_⟩
  intro k i0 z h1 h2 h3 h4
  exact { mixed := by kernel_rfl, t3 := Tryz.underlying3, t4 := Tryz.underlying4, t24 := Tryz.underlying120, i9 := h1, s9 := h2, z9 := h3, zs := h4, zero3 := Tryz.zeroValue3, zero4 := Tryz.zeroValue4, agg3 := Tryz.isAgg3, agg4 := Tryz.isAgg4, agg24 := Tryz.isAgg120, size3 := Tryz.sizeOf3, size4 := Tryz.sizeOf4, size24 := Tryz.sizeOf120 }
theorem Tryz.prim162 {ext : PT ExtK} {prim : PT PrimK} : PrimFits Tryz.prog (mkEnv Tryz.prog ext prim) Tryz.G 162 (.insert 120) :=
  ⟨⟨Tryz.f162, Tryz.func162, by kernel_rfl, by kernel_rfl⟩, fun args H v H' h => insert_ok (ρ := Tryz.r162) (mkEnv_ty Tryz.prog ext prim) Tryz.ins162 h (by kernel_rfl) (by kernel_rfl)⟩
def Tryz.r242 : Ren := ⟨fun | 22 => 242 | 29 => 279 | 30 => 280 | n => n, fun | 24 => 251 | 9 => 255 | n => n, fun n => n⟩
theorem Tryz.ins242 : InsFn Tryz.prog Tryz.r242 Tryz.f242 := by
  refine ⟨Tryz.func242, by kernel_rfl, Tryz.ntmps242, by kernel_rfl, ov_of (P := Tryz.prog) (f := 279) Tryz.func279 (by kernel_rfl) (by kernel_rfl) (by kernel_rfl) (tS := 251) (tR := 4) (e := 255) (by kernel_rfl) Tryz.underlying251 Tryz.sizeOf255, ?_⟩
  intro k i0 z h1 h2 h3 h4
  exact { mixed := by kernel_rfl, t3 := Tryz.underlying3, t4 := Tryz.underlying4, t24 := Tryz.underlying251, i9 := h1, s9 := h2, z9 := h3, zs := h4, zero3 := Tryz.zeroValue3, zero4 := Tryz.zeroValue4, agg3 := Tryz.isAgg3, agg4 := Tryz.isAgg4, agg24 := Tryz.isAgg251, size3 := Tryz.sizeOf3, size4 := Tryz.sizeOf4, size24 := Tryz.sizeOf251 }
theorem Tryz.prim242 {ext : PT ExtK} {prim : PT PrimK} : PrimFits Tryz.prog (mkEnv Tryz.prog ext prim) Tryz.G 242 (.insert 251) :=
  ⟨⟨Tryz.f242, Tryz.func242, by kernel_rfl, by kernel_rfl⟩, fun args H v H' h => insert_ok (ρ := Tryz.r242) (mkEnv_ty Tryz.prog ext prim) Tryz.ins242 h (by kernel_rfl) (by kernel_rfl)⟩
def Tryz.r243 : Ren := ⟨fun | 22 => 243 | 29 => 281 | 30 => 282 | n => n, fun | 24 => 256 | 9 => 260 | n => n, fun n => n⟩
theorem Tryz.ins243 : InsFn Tryz.prog Tryz.r243 Tryz.f243 := by
  refine ⟨Tryz.func243, by kernel_rfl, Tryz.ntmps243, by kernel_rfl, ov_of (P := Tryz.prog) (f := 281) Tryz.func281 (by kernel_rfl) (by kernel_rfl) (by kernel_rfl) (tS := 256) (tR := 4) (e := 260) (by kernel_rfl) Tryz.underlying256 Tryz.sizeOf260, ?_⟩
  intro k i0 z h1 h2 h3 h4
  exact { mixed := by kernel_rfl, t3 := Tryz.underlying3, t4 := Tryz.underlying4, t24 := Tryz.underlying256, i9 := h1, s9 := h2, z9 := h3, zs := h4, zero3 := Tryz.zeroValue3, zero4 := Tryz.zeroValue4, agg3 := Tryz.isAgg3, agg4 := Tryz.isAgg4, agg24 := Tryz.isAgg256, size3 := Tryz.sizeOf3, size4 := Tryz.sizeOf4, size24 := Tryz.sizeOf256 }
theorem Tryz.prim243 {ext : PT ExtK} {prim : PT PrimK} : PrimFits Tryz.prog (mkEnv Tryz.prog ext prim) Tryz.G 243 (.insert 256) :=
  ⟨⟨Tryz.f243, Tryz.func243, by kernel_rfl, by kernel_rfl⟩, fun args H v H' h => insert_ok (ρ := Tryz.r243) (mkEnv_ty Tryz.prog ext prim) Tryz.ins243 h (by kernel_rfl) (by kernel_rfl)⟩
def Tryz.r244 : Ren := ⟨fun | 22 => 244 | 29 => 283 | 30 => 284 | n => n, fun | 24 => 261 | 9 => 265 | n => n, fun n => n⟩
theorem Tryz.ins244 : InsFn Tryz.prog Tryz.r244 Tryz.f244 := by
  refine ⟨Tryz.func244, by kernel_rfl, Tryz.ntmps244, by kernel_rfl, ov_of (P := Tryz.prog) (f := 283) Tryz.func283 (by kernel_rfl) (by kernel_rfl) (by kernel_rfl) (tS := 261) (tR := 4) (e := 265) (by kernel_rfl) Tryz.underlying261 Tryz.sizeOf265, ?_⟩
  intro k i0 z h1 h2 h3 h4
  exact { mixed := by kernel_rfl, t3 := Tryz.underlying3, t4 := Tryz.underlying4, t24 := Tryz.underlying261, i9 := h1, s9 := h2, z9 := h3, zs := h4, zero3 := Tryz.zeroValue3, zero4 := Tryz.zeroValue4, agg3 := Tryz.isAgg3, agg4 := Tryz.isAgg4, agg24 := Tryz.isAgg261, size3 := Tryz.sizeOf3, size4 := Tryz.sizeOf4, size24 := Tryz.sizeOf261 }
theorem Tryz.prim244 {ext : PT ExtK} {prim : PT PrimK} : PrimFits Tryz.prog (mkEnv Tryz.prog ext prim) Tryz.G 244 (.insert 261) :=
  ⟨⟨Tryz.f244, Tryz.func244, by kernel_rfl, by kernel_rfl⟩, fun args H v H' h => insert_ok (ρ := Tryz.r244) (mkEnv_ty Tryz.prog ext prim) Tryz.ins244 h (by kernel_rfl) (by kernel_rfl)⟩
def Tryz.r246 : Ren := ⟨fun | 22 => 246 | 29 => 285 | 30 => 286 | n => n, fun | 24 => 92 | 9 => 192 | n => n, fun n => n⟩
theorem Tryz.ins246 : InsFn Tryz.prog Tryz.r246 Tryz.f246 := by
  refine ⟨Tryz.func246, by kernel_rfl, Tryz.ntmps246, by kernel_rfl, ov_of (P := Tryz.prog) (f := 285) Tryz.func285 (by kernel_rfl) (by kernel_rfl) (by kernel_rfl) (tS := 92) (tR := 4) (e := 192) (by kernel_rfl) Tryz.underlying92 Tryz.sizeOf192, ?_⟩
  intro k i0 z h1 h2 h3 h4
  exact { mixed := by kernel_rfl, t3 := Tryz.underlying3, t4 := Tryz.underlying4, t24 := Tryz.underlying92, i9 := h1, s9 := h2, z9 := h3, zs := h4, zero3 := Tryz.zeroValue3, zero4 := Tryz.zeroValue4, agg3 := Tryz.isAgg3, agg4 := Tryz.isAgg4, agg24 := Tryz.isAgg92, size3 := Tryz.sizeOf3, size4 := Tryz.sizeOf4, size24 := Tryz.sizeOf92 }
theorem Tryz.prim246 {ext : PT ExtK} {prim : PT PrimK} : PrimFits Tryz.prog (mkEnv Tryz.prog ext prim) Tryz.G 246 (.insert 92) :=
  ⟨⟨Tryz.f246, Tryz.func246, by kernel_rfl, by kernel_rfl⟩, fun args H v H' h => insert_ok (ρ := Tryz.r246) (mkEnv_ty Tryz.prog ext prim) Tryz.ins246 h (by kernel_rfl) (by kernel_rfl)⟩
end
noncomputable section
theorem Tryz.sorts (m : Nat) : AnyZ.SortsIn Tryz.prog Tryz.sortedA_ren Fence.wide m :=
  ⟨fun blk off cap ss W hH hblk hsz => callsIn_wide.2 (AnyM.slices_Sort_string Tryz.sortA blk off cap ss W hH hblk hsz), fun p cap W => callsIn_wide.2 (AnyM.slices_Sort_string_none Tryz.sortA p cap W)⟩
theorem Tryz.srt217 : SrtFn Tryz.prog Tryz.keys217_ren Tryz.sortedA_ren :=
  ⟨{ Tryz.keys217 with }, Tryz.sortedA, Tryz.sorts, enters_of Tryz.func100 (by kernel_rfl) rfl, enters_of Tryz.func217 (by kernel_rfl) rfl, by kernel_rfl⟩
theorem Tryz.srt274 : SrtFn Tryz.prog Tryz.keys274_ren Tryz.sortedA_ren :=
  ⟨{ Tryz.keys274 with }, Tryz.sortedA, Tryz.sorts, enters_of Tryz.func100 (by kernel_rfl) rfl, enters_of Tryz.func274 (by kernel_rfl) rfl, by kernel_rfl⟩
theorem Tryz.prim165 {ext : PT ExtK} {prim : PT PrimK} : PrimFits Tryz.prog (mkEnv Tryz.prog ext prim) Tryz.G 165 (.sortedKeys 9 [217, 274]) :=
  ⟨⟨Tryz.f165, Tryz.func165, by kernel_rfl, by kernel_rfl⟩, fun args H v H' h => sorted_any (ρs := Tryz.sortedA_ren) (l := [Tryz.keys217_ren, Tryz.keys274_ren]) (by
    intro r hr
    simp only [List.mem_cons, List.mem_nil_iff, or_false] at hr
    rcases hr with rfl | rfl
    · exact Tryz.srt217
    · exact Tryz.srt274
    ) h⟩
def Tryz.primL : List (Nat × PrimK) := [(162, .insert 120), (242, .insert 251), (243, .insert 256), (244, .insert 261), (246, .insert 92), (165, .sortedKeys 9 [217, 274])]
theorem Tryz.primsOk {ext : PT ExtK} {prim : PT PrimK} : ∀ x ∈ Tryz.primL, PrimFits Tryz.prog (mkEnv Tryz.prog ext prim) Tryz.G x.1 x.2 := by
  intro x hx
  simp only [Tryz.primL, List.mem_cons, List.mem_nil_iff, or_false] at hx
  rcases hx with rfl | rfl | rfl | rfl | rfl | rfl
  · exact Tryz.prim162
  · exact Tryz.prim242
  · exact Tryz.prim243
  · exact Tryz.prim244
  · exact Tryz.prim246
  · exact Tryz.prim165
theorem Tryz.chk0 : (List.range' 0 60).all (chkF Tryz.prog) = true := by kernel_rfl
theorem Tryz.chk1 : (List.range' 60 60).all (chkF Tryz.prog) = true := by kernel_rfl
theorem Tryz.chk2 : (List.range' 120 60).all (chkF Tryz.prog) = true := by kernel_rfl
theorem Tryz.chk3 : (List.range' 180 60).all (chkF Tryz.prog) = true := by kernel_rfl
theorem Tryz.chk4 : (List.range' 240 60).all (chkF Tryz.prog) = true := by kernel_rfl
theorem Tryz.chk5 : (List.range' 300 60).all (chkF Tryz.prog) = true := by kernel_rfl
theorem Tryz.nfuncs : Tryz.prog.funcs.size = 359 := by kernel_rfl
theorem Tryz.nglob : Tryz.prog.globals.size = 8 := by kernel_rfl
theorem Tryz.chk : ∀ f, f < Tryz.prog.funcs.size → chkF Tryz.prog f = true := by
  intro f hf
  rw [Tryz.nfuncs] at hf
  by_cases h0 : f < 60
  · exact all_range Tryz.chk0 f (by omega) (by omega)
  by_cases h1 : f < 120
  · exact all_range Tryz.chk1 f (by omega) (by omega)
  by_cases h2 : f < 180
  · exact all_range Tryz.chk2 f (by omega) (by omega)
  by_cases h3 : f < 240
  · exact all_range Tryz.chk3 f (by omega) (by omega)
  by_cases h4 : f < 300
  · exact all_range Tryz.chk4 f (by omega) (by omega)
  exact all_range Tryz.chk5 f (by omega) (by omega)
theorem Tryz.callOk (m : List (Nat × PrimK)) (hm : ∀ x ∈ m, PrimFits Tryz.prog (mkEnv Tryz.prog Tryz.ext (ptOf (m ++ Tryz.primL))) Tryz.G x.1 x.2) (n : Nat) :
    CallOk Tryz.prog Tryz.G (callE (mkEnv Tryz.prog Tryz.ext (ptOf (m ++ Tryz.primL))) (execC (mkEnv Tryz.prog Tryz.ext (ptOf (m ++ Tryz.primL))) n)) :=
  Vsx.callOk Tryz.nglob (by kernel_rfl) Tryz.extOk Tryz.chk (prim_of rfl fun x hx => (List.mem_append.1 hx).elim (hm x) (Tryz.primsOk x)) n
end

end Go.Proofs
