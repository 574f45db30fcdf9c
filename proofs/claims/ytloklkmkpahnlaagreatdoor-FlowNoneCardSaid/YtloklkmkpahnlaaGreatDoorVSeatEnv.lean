/- What the executor is told of this program: its library functions without a body, the functions that are taken by a contract (slices.Insert, slices.Sorted), and that each function passes the static check. No conditions. -/
import Derived.Test.YtloklkmkpahnlaaGreatDoorVMemo
import Derived.Test.YtloklkmkpahnlaaGreatDoorVIns2
import Derived.Test.YtloklkmkpahnlaaGreatDoorVSrt
import Derived.Test.YtloklkmkpahnlaaGreatDoorVSrtI
import Derived.Test.YtloklkmkpahnlaaGreatDoorVSeatLay
import Derived.Test.YtloklkmkpahnlaaGreatDoorProg
import Derived.KernelRfl
set_option linter.all false
namespace Go.Proofs
open Go Go.Vsx Go.Shelf Go.RowKit
set_option maxRecDepth 1000000
noncomputable section
def Tryz.extL : List (Nat × ExtK) := [(330, .count), (335, .noEscape), (336, .makeNoZero 5), (339, .cmp), (371, .indexByte), (373, .mapsClone)]
def Tryz.ext : PT ExtK := ptOf Tryz.extL
theorem Tryz.extOk : ∀ f k, Tryz.ext.get f = some k → ExtFits Tryz.prog f k := by
  intro f k h
  have hm := ptOf_mem _ f k h
  simp only [Tryz.extL, List.mem_cons, List.mem_nil_iff, or_false, Prod.mk.injEq] at hm
  rcases hm with ⟨rfl, rfl⟩ | ⟨rfl, rfl⟩ | ⟨rfl, rfl⟩ | ⟨rfl, rfl⟩ | ⟨rfl, rfl⟩ | ⟨rfl, rfl⟩
  · exact ⟨Tryz.f330, Tryz.func330, by kernel_rfl, by kernel_rfl, by kernel_rfl, show Extern.find Tryz.f330 = some Extern.BytealgCount.count from by kernel_rfl⟩
  · exact ⟨Tryz.f335, Tryz.func335, by kernel_rfl, by kernel_rfl, by kernel_rfl, show Extern.find Tryz.f335 = some Extern.AbiNoEscape.same from by kernel_rfl⟩
  · exact ⟨Tryz.f336, Tryz.func336, by kernel_rfl, by kernel_rfl, by kernel_rfl, ⟨#[3], 167, by kernel_rfl, Tryz.underlying167⟩⟩
  · exact ⟨Tryz.f339, Tryz.func339, by kernel_rfl, by kernel_rfl, by kernel_rfl, show Extern.find Tryz.f339 = some Extern.BytealgCompare.compare from by kernel_rfl⟩
  · exact ⟨Tryz.f371, Tryz.func371, by kernel_rfl, by kernel_rfl, by kernel_rfl, show Extern.find Tryz.f371 = some Extern.BytealgIndexByte.indexByte from by kernel_rfl⟩
  · exact ⟨Tryz.f373, Tryz.func373, by kernel_rfl, by kernel_rfl, by kernel_rfl, show Extern.find Tryz.f373 = some Extern.MapsClone.clone from by kernel_rfl⟩
def Tryz.gsL : List Nat := [0, 1]
def Tryz.G : GS := initGS 8 (firstHeap 8 Tryz.gsL)
def Tryz.r121 : Ren := ⟨fun | 22 => 121 | 29 => 210 | 30 => 211 | n => n, fun | 24 => 164 | 9 => 207 | n => n, fun n => n⟩
theorem Tryz.ins121 : InsFn Tryz.prog Tryz.r121 Tryz.f121 := by
  refine ⟨Tryz.func121, by kernel_rfl, Tryz.ntmps121, by kernel_rfl, ov_of (P := Tryz.prog) (f := 210) Tryz.func210 (by kernel_rfl) (by kernel_rfl) (by kernel_rfl) (tS := 164) (tR := 4) (e := 207) (by kernel_rfl) Tryz.underlying164 Tryz.sizeOf207, ?_⟩
  intro k i0 z h1 h2 h3 h4
  exact { mixed := by kernel_rfl, t3 := Tryz.underlying3, t4 := Tryz.underlying4, t24 := Tryz.underlying164, i9 := h1, s9 := h2, z9 := h3, zs := h4, zero3 := Tryz.zeroValue3, zero4 := Tryz.zeroValue4, agg3 := Tryz.isAgg3, agg4 := Tryz.isAgg4, agg24 := Tryz.isAgg164, size3 := Tryz.sizeOf3, size4 := Tryz.sizeOf4, size24 := Tryz.sizeOf164 }
theorem Tryz.prim121 {ext : PT ExtK} {prim : PT PrimK} : PrimFits Tryz.prog (mkEnv Tryz.prog ext prim) Tryz.G 121 (.insert 164) :=
  ⟨⟨Tryz.f121, Tryz.func121, by kernel_rfl, by kernel_rfl⟩, fun args H v H' h => insert_ok (ρ := Tryz.r121) (mkEnv_ty Tryz.prog ext prim) Tryz.ins121 h (by kernel_rfl) (by kernel_rfl)⟩
def Tryz.r122 : Ren := ⟨fun | 22 => 122 | 29 => 212 | 30 => 213 | n => n, fun | 24 => 154 | 9 => 153 | n => n, fun n => n⟩
theorem Tryz.ins122 : InsFn Tryz.prog Tryz.r122 Tryz.f122 := by
  refine ⟨Tryz.func122, by kernel_rfl, Tryz.ntmps122, by kernel_rfl, ov_of (P := Tryz.prog) (f := 212) Tryz.func212 (by kernel_rfl) (by kernel_rfl) (by kernel_rfl) (tS := 154) (tR := 4) (e := 153) (by kernel_rfl) Tryz.underlying154 Tryz.sizeOf153, ?_⟩
  intro k i0 z h1 h2 h3 h4
  exact { mixed := by kernel_rfl, t3 := Tryz.underlying3, t4 := Tryz.underlying4, t24 := Tryz.underlying154, i9 := h1, s9 := h2, z9 := h3, zs := h4, zero3 := Tryz.zeroValue3, zero4 := Tryz.zeroValue4, agg3 := Tryz.isAgg3, agg4 := Tryz.isAgg4, agg24 := Tryz.isAgg154, size3 := Tryz.sizeOf3, size4 := Tryz.sizeOf4, size24 := Tryz.sizeOf154 }
theorem Tryz.prim122 {ext : PT ExtK} {prim : PT PrimK} : PrimFits Tryz.prog (mkEnv Tryz.prog ext prim) Tryz.G 122 (.insert 154) :=
  ⟨⟨Tryz.f122, Tryz.func122, by kernel_rfl, by kernel_rfl⟩, fun args H v H' h => insert_ok (ρ := Tryz.r122) (mkEnv_ty Tryz.prog ext prim) Tryz.ins122 h (by kernel_rfl) (by kernel_rfl)⟩
def Tryz.r123 : Ren := ⟨fun | 22 => 123 | 29 => 214 | 30 => 215 | n => n, fun | 24 => 160 | 9 => 159 | n => n, fun n => n⟩
theorem Tryz.ins123 : InsFn Tryz.prog Tryz.r123 Tryz.f123 := by
  refine ⟨Tryz.func123, by kernel_rfl, Tryz.ntmps123, by kernel_rfl, ov_of (P := Tryz.prog) (f := 214) Tryz.func214 (by kernel_rfl) (by kernel_rfl) (by kernel_rfl) (tS := 160) (tR := 4) (e := 159) (by kernel_rfl) Tryz.underlying160 Tryz.sizeOf159, ?_⟩
  intro k i0 z h1 h2 h3 h4
  exact { mixed := by kernel_rfl, t3 := Tryz.underlying3, t4 := Tryz.underlying4, t24 := Tryz.underlying160, i9 := h1, s9 := h2, z9 := h3, zs := h4, zero3 := Tryz.zeroValue3, zero4 := Tryz.zeroValue4, agg3 := Tryz.isAgg3, agg4 := Tryz.isAgg4, agg24 := Tryz.isAgg160, size3 := Tryz.sizeOf3, size4 := Tryz.sizeOf4, size24 := Tryz.sizeOf160 }
theorem Tryz.prim123 {ext : PT ExtK} {prim : PT PrimK} : PrimFits Tryz.prog (mkEnv Tryz.prog ext prim) Tryz.G 123 (.insert 160) :=
  ⟨⟨Tryz.f123, Tryz.func123, by kernel_rfl, by kernel_rfl⟩, fun args H v H' h => insert_ok (ρ := Tryz.r123) (mkEnv_ty Tryz.prog ext prim) Tryz.ins123 h (by kernel_rfl) (by kernel_rfl)⟩
def Tryz.r124 : Ren := ⟨fun | 22 => 124 | 29 => 216 | 30 => 217 | n => n, fun | 24 => 113 | 9 => 144 | n => n, fun n => n⟩
theorem Tryz.ins124 : InsFn Tryz.prog Tryz.r124 Tryz.f124 := by
  refine ⟨Tryz.func124, by kernel_rfl, Tryz.ntmps124, by kernel_rfl, ov_of (P := Tryz.prog) (f := 216) Tryz.func216 (by kernel_rfl) (by kernel_rfl) (by kernel_rfl) (tS := 113) (tR := 4) (e := 144) (by kernel_rfl) Tryz.underlying113 Tryz.sizeOf144, ?_⟩
  intro k i0 z h1 h2 h3 h4
  exact { mixed := by kernel_rfl, t3 := Tryz.underlying3, t4 := Tryz.underlying4, t24 := Tryz.underlying113, i9 := h1, s9 := h2, z9 := h3, zs := h4, zero3 := Tryz.zeroValue3, zero4 := Tryz.zeroValue4, agg3 := Tryz.isAgg3, agg4 := Tryz.isAgg4, agg24 := Tryz.isAgg113, size3 := Tryz.sizeOf3, size4 := Tryz.sizeOf4, size24 := Tryz.sizeOf113 }
theorem Tryz.prim124 {ext : PT ExtK} {prim : PT PrimK} : PrimFits Tryz.prog (mkEnv Tryz.prog ext prim) Tryz.G 124 (.insert 113) :=
  ⟨⟨Tryz.f124, Tryz.func124, by kernel_rfl, by kernel_rfl⟩, fun args H v H' h => insert_ok (ρ := Tryz.r124) (mkEnv_ty Tryz.prog ext prim) Tryz.ins124 h (by kernel_rfl) (by kernel_rfl)⟩
def Tryz.r244 : Ren := ⟨fun | 22 => 244 | 29 => 294 | 30 => 295 | n => n, fun | 24 => 236 | 9 => 353 | n => n, fun n => n⟩
theorem Tryz.ins244 : InsFn Tryz.prog Tryz.r244 Tryz.f244 := by
  refine ⟨Tryz.func244, by kernel_rfl, Tryz.ntmps244, by kernel_rfl, ov_of (P := Tryz.prog) (f := 294) Tryz.func294 (by kernel_rfl) (by kernel_rfl) (by kernel_rfl) (tS := 236) (tR := 4) (e := 353) (by kernel_rfl) Tryz.underlying236 Tryz.sizeOf353, ?_⟩
  intro k i0 z h1 h2 h3 h4
  exact { mixed := by kernel_rfl, t3 := Tryz.underlying3, t4 := Tryz.underlying4, t24 := Tryz.underlying236, i9 := h1, s9 := h2, z9 := h3, zs := h4, zero3 := Tryz.zeroValue3, zero4 := Tryz.zeroValue4, agg3 := Tryz.isAgg3, agg4 := Tryz.isAgg4, agg24 := Tryz.isAgg236, size3 := Tryz.sizeOf3, size4 := Tryz.sizeOf4, size24 := Tryz.sizeOf236 }
theorem Tryz.prim244 {ext : PT ExtK} {prim : PT PrimK} : PrimFits Tryz.prog (mkEnv Tryz.prog ext prim) Tryz.G 244 (.insert 236) :=
  ⟨⟨Tryz.f244, Tryz.func244, by kernel_rfl, by kernel_rfl⟩, fun args H v H' h => insert_ok (ρ := Tryz.r244) (mkEnv_ty Tryz.prog ext prim) Tryz.ins244 h (by kernel_rfl) (by kernel_rfl)⟩
end
noncomputable section
theorem Tryz.sorts (m : Nat) : AnyZ.SortsIn Tryz.prog Tryz.sortedA_ren Fence.wide m :=
  ⟨fun blk off cap ss W hH hblk hsz => callsIn_wide.2 (AnyM.slices_Sort_string Tryz.sortA blk off cap ss W hH hblk hsz), fun p cap W => callsIn_wide.2 (AnyM.slices_Sort_string_none Tryz.sortA p cap W)⟩
theorem Tryz.srt299 : SrtFn Tryz.prog Tryz.keys299_ren Tryz.sortedA_ren :=
  ⟨{ Tryz.keys299 with }, Tryz.sortedA, Tryz.sorts, enters_of Tryz.func291 (by kernel_rfl) rfl, enters_of Tryz.func299 (by kernel_rfl) rfl, by kernel_rfl⟩
theorem Tryz.srt324 : SrtFn Tryz.prog Tryz.keys324_ren Tryz.sortedA_ren :=
  ⟨{ Tryz.keys324 with }, Tryz.sortedA, Tryz.sorts, enters_of Tryz.func291 (by kernel_rfl) rfl, enters_of Tryz.func324 (by kernel_rfl) rfl, by kernel_rfl⟩
theorem Tryz.prim251 {ext : PT ExtK} {prim : PT PrimK} : PrimFits Tryz.prog (mkEnv Tryz.prog ext prim) Tryz.G 251 (.sortedKeys 9 [299, 324]) :=
  ⟨⟨Tryz.f251, Tryz.func251, by kernel_rfl, by kernel_rfl⟩, fun args H v H' h => sorted_any (ρs := Tryz.sortedA_ren) (l := [Tryz.keys299_ren, Tryz.keys324_ren]) (by
    intro r hr
    simp only [List.mem_cons, List.mem_nil_iff, or_false] at hr
    rcases hr with rfl | rfl
    · exact Tryz.srt299
    · exact Tryz.srt324
    ) h⟩
end
noncomputable section
theorem Tryz.sortsI (m : Nat) : AnyZI.SortsIn Tryz.prog Tryz.sortedI_ren Fence.wide m :=
  ⟨fun blk off cap ss W hH hblk hsz => callsIn_wide.2 (AnyM.slices_Sort_int Tryz.sortI blk off cap ss W hH hblk hsz), fun p cap W => callsIn_wide.2 (AnyM.slices_Sort_int_none Tryz.sortI p cap W)⟩
theorem Tryz.srtI73 : SrtFnI Tryz.prog Tryz.keysI73_ren Tryz.sortedI_ren :=
  ⟨{ Tryz.keysI73 with }, Tryz.sortedI, Tryz.sortsI, enters_of Tryz.func72 (by kernel_rfl) rfl, enters_of Tryz.func73 (by kernel_rfl) rfl, by kernel_rfl⟩
theorem Tryz.prim46 {ext : PT ExtK} {prim : PT PrimK} : PrimFits Tryz.prog (mkEnv Tryz.prog ext prim) Tryz.G 46 (.sortedInts 3 [73]) :=
  ⟨⟨Tryz.f46, Tryz.func46, by kernel_rfl, by kernel_rfl⟩, fun args H v H' h => sortedI_any (ρs := Tryz.sortedI_ren) (l := [Tryz.keysI73_ren]) (by
    intro r hr
    simp only [List.mem_cons, List.mem_nil_iff, or_false] at hr
    rcases hr with rfl
    · exact Tryz.srtI73
    ) h⟩
def Tryz.primL : List (Nat × PrimK) := [(121, .insert 164), (122, .insert 154), (123, .insert 160), (124, .insert 113), (244, .insert 236), (251, .sortedKeys 9 [299, 324]), (46, .sortedInts 3 [73])]
theorem Tryz.primsOk {ext : PT ExtK} {prim : PT PrimK} : ∀ x ∈ Tryz.primL, PrimFits Tryz.prog (mkEnv Tryz.prog ext prim) Tryz.G x.1 x.2 := by
  intro x hx
  simp only [Tryz.primL, List.mem_cons, List.mem_nil_iff, or_false] at hx
  rcases hx with rfl | rfl | rfl | rfl | rfl | rfl | rfl
  · exact Tryz.prim121
  · exact Tryz.prim122
  · exact Tryz.prim123
  · exact Tryz.prim124
  · exact Tryz.prim244
  · exact Tryz.prim251
  · exact Tryz.prim46
theorem Tryz.chk0 : (List.range' 0 60).all (chkF Tryz.prog) = true := by kernel_rfl
theorem Tryz.chk1 : (List.range' 60 60).all (chkF Tryz.prog) = true := by kernel_rfl
theorem Tryz.chk2 : (List.range' 120 60).all (chkF Tryz.prog) = true := by kernel_rfl
theorem Tryz.chk3 : (List.range' 180 60).all (chkF Tryz.prog) = true := by kernel_rfl
theorem Tryz.chk4 : (List.range' 240 60).all (chkF Tryz.prog) = true := by kernel_rfl
theorem Tryz.chk5 : (List.range' 300 60).all (chkF Tryz.prog) = true := by kernel_rfl
theorem Tryz.chk6 : (List.range' 360 60).all (chkF Tryz.prog) = true := by kernel_rfl
theorem Tryz.nfuncs : Tryz.prog.funcs.size = 410 := by kernel_rfl
theorem Tryz.nglob : Tryz.prog.globals.size = 8 := by kernel_rfl
theorem Tryz.chk : ∀ f, f < Tryz.prog.funcs.size → chkF Tryz.prog f = true := by
  intro f hf
  rw [Tryz.nfuncs] at hf
  by_cases h0 : f < 60
  · exact all_range Tryz.chk0 f (by omega) (by omega)
  by_cases h1 : f < 120
  · exact all_range Tryz.chk1 f (by omega) (by omega)
  by_cases h2 : f < 180
  · exact all_range Tryz.chk2 f (by omega) (by omega)
  by_cases h3 : f < 240
  · exact all_range Tryz.chk3 f (by omega) (by omega)
  by_cases h4 : f < 300
  · exact all_range Tryz.chk4 f (by omega) (by omega)
  by_cases h5 : f < 360
  · exact all_range Tryz.chk5 f (by omega) (by omega)
  exact all_range Tryz.chk6 f (by omega) (by omega)
theorem Tryz.callOk (m : List (Nat × PrimK)) (hm : ∀ x ∈ m, PrimFits Tryz.prog (mkEnv Tryz.prog Tryz.ext (ptOf (m ++ Tryz.primL))) Tryz.G x.1 x.2) (n : Nat) :
    CallOk Tryz.prog Tryz.G (callE (mkEnv Tryz.prog Tryz.ext (ptOf (m ++ Tryz.primL))) (execC (mkEnv Tryz.prog Tryz.ext (ptOf (m ++ Tryz.primL))) n)) :=
  Vsx.callOk Tryz.nglob (by kernel_rfl) Tryz.extOk Tryz.chk (prim_of rfl fun x hx => (List.mem_append.1 hx).elim (hm x) (Tryz.primsOk x)) n
end

end Go.Proofs
