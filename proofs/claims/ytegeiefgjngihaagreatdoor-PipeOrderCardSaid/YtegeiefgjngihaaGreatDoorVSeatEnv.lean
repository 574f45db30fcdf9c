/- What the executor is told of this program: its library functions without a body, the functions that are taken by a contract (slices.Insert, slices.Sorted), and that each function passes the static check. No conditions. -/
import Derived.Test.YtegeiefgjngihaaGreatDoorVTab
import Derived.Test.YtegeiefgjngihaaGreatDoorVIns2
import Derived.Test.YtegeiefgjngihaaGreatDoorVSrt
import Derived.Test.YtegeiefgjngihaaGreatDoorVSrtI
import Derived.Test.YtegeiefgjngihaaGreatDoorVSeatLay
import Derived.Test.YtegeiefgjngihaaGreatDoorProg
import Derived.KernelRfl
set_option linter.all false
namespace Go.Proofs
open Go Go.Vsx Go.Shelf Go.RowKit
set_option maxRecDepth 1000000
noncomputable section
def Tryz.extL : List (Nat × ExtK) := [(325, .count), (330, .noEscape), (331, .makeNoZero 5), (334, .cmp), (371, .indexByte), (373, .mapsClone)]
def Tryz.ext : PT ExtK := ptOf Tryz.extL
theorem Tryz.extOk : ∀ f k, Tryz.ext.get f = some k → ExtFits Tryz.prog f k := by
  intro f k h
  have hm := ptOf_mem _ f k h
  simp only [Tryz.extL, List.mem_cons, List.mem_nil_iff, or_false, Prod.mk.injEq] at hm
  rcases hm with ⟨rfl, rfl⟩ | ⟨rfl, rfl⟩ | ⟨rfl, rfl⟩ | ⟨rfl, rfl⟩ | ⟨rfl, rfl⟩ | ⟨rfl, rfl⟩
  · exact ⟨Tryz.f325, Tryz.func325, by kernel_rfl, by kernel_rfl, by kernel_rfl, show Extern.find Tryz.f325 = some Extern.BytealgCount.count from by kernel_rfl⟩
  · exact ⟨Tryz.f330, Tryz.func330, by kernel_rfl, by kernel_rfl, by kernel_rfl, show Extern.find Tryz.f330 = some Extern.AbiNoEscape.same from by kernel_rfl⟩
  · exact ⟨Tryz.f331, Tryz.func331, by kernel_rfl, by kernel_rfl, by kernel_rfl, ⟨#[3], 161, by kernel_rfl, Tryz.underlying161⟩⟩
  · exact ⟨Tryz.f334, Tryz.func334, by kernel_rfl, by kernel_rfl, by kernel_rfl, show Extern.find Tryz.f334 = some Extern.BytealgCompare.compare from by kernel_rfl⟩
  · exact ⟨Tryz.f371, Tryz.func371, by kernel_rfl, by kernel_rfl, by kernel_rfl, show Extern.find Tryz.f371 = some Extern.BytealgIndexByte.indexByte from by kernel_rfl⟩
  · exact ⟨Tryz.f373, Tryz.func373, by kernel_rfl, by kernel_rfl, by kernel_rfl, show Extern.find Tryz.f373 = some Extern.MapsClone.clone from by kernel_rfl⟩
def Tryz.gsL : List Nat := [0, 1]
def Tryz.r202 : Ren := ⟨fun | 22 => 202 | 29 => 260 | 30 => 261 | n => n, fun | 24 => 136 | 9 => 201 | n => n, fun n => n⟩
theorem Tryz.ins202 : InsFn Tryz.prog Tryz.r202 Tryz.f202 := by
  refine ⟨Tryz.func202, by kernel_rfl, Tryz.ntmps202, by kernel_rfl, ov_of (P := Tryz.prog) (f := 260) Tryz.func260 (by kernel_rfl) (by kernel_rfl) (by kernel_rfl) (tS := 136) (tR := 4) (e := 201) (by kernel_rfl) Tryz.underlying136 Tryz.sizeOf201, ?_⟩
  intro k i0 z h1 h2 h3 h4
  exact { mixed := by kernel_rfl, t3 := Tryz.underlying3, t4 := Tryz.underlying4, t24 := Tryz.underlying136, i9 := h1, s9 := h2, z9 := h3, zs := h4, zero3 := Tryz.zeroValue3, zero4 := Tryz.zeroValue4, agg3 := Tryz.isAgg3, agg4 := Tryz.isAgg4, agg24 := Tryz.isAgg136, size3 := Tryz.sizeOf3, size4 := Tryz.sizeOf4, size24 := Tryz.sizeOf136 }
theorem Tryz.prim202 {ext : PT ExtK} {prim : PT PrimK} {sy : PT (List SE)} {G : GS} : PrimFits Tryz.prog (mkEnvS Tryz.prog ext prim sy) G 202 (.insert 136) :=
  ⟨⟨Tryz.f202, Tryz.func202, by kernel_rfl, by kernel_rfl⟩, fun args H v H' h => insert_ok (ρ := Tryz.r202) (mkEnvS_ty Tryz.prog ext prim sy) Tryz.ins202 h (by kernel_rfl) (by kernel_rfl)⟩
def Tryz.r204 : Ren := ⟨fun | 22 => 204 | 29 => 262 | 30 => 263 | n => n, fun | 24 => 139 | 9 => 203 | n => n, fun n => n⟩
theorem Tryz.ins204 : InsFn Tryz.prog Tryz.r204 Tryz.f204 := by
  refine ⟨Tryz.func204, by kernel_rfl, Tryz.ntmps204, by kernel_rfl, ov_of (P := Tryz.prog) (f := 262) Tryz.func262 (by kernel_rfl) (by kernel_rfl) (by kernel_rfl) (tS := 139) (tR := 4) (e := 203) (by kernel_rfl) Tryz.underlying139 Tryz.sizeOf203, ?_⟩
  intro k i0 z h1 h2 h3 h4
  exact { mixed := by kernel_rfl, t3 := Tryz.underlying3, t4 := Tryz.underlying4, t24 := Tryz.underlying139, i9 := h1, s9 := h2, z9 := h3, zs := h4, zero3 := Tryz.zeroValue3, zero4 := Tryz.zeroValue4, agg3 := Tryz.isAgg3, agg4 := Tryz.isAgg4, agg24 := Tryz.isAgg139, size3 := Tryz.sizeOf3, size4 := Tryz.sizeOf4, size24 := Tryz.sizeOf139 }
theorem Tryz.prim204 {ext : PT ExtK} {prim : PT PrimK} {sy : PT (List SE)} {G : GS} : PrimFits Tryz.prog (mkEnvS Tryz.prog ext prim sy) G 204 (.insert 139) :=
  ⟨⟨Tryz.f204, Tryz.func204, by kernel_rfl, by kernel_rfl⟩, fun args H v H' h => insert_ok (ρ := Tryz.r204) (mkEnvS_ty Tryz.prog ext prim sy) Tryz.ins204 h (by kernel_rfl) (by kernel_rfl)⟩
def Tryz.r206 : Ren := ⟨fun | 22 => 206 | 29 => 264 | 30 => 265 | n => n, fun | 24 => 142 | 9 => 205 | n => n, fun n => n⟩
theorem Tryz.ins206 : InsFn Tryz.prog Tryz.r206 Tryz.f206 := by
  refine ⟨Tryz.func206, by kernel_rfl, Tryz.ntmps206, by kernel_rfl, ov_of (P := Tryz.prog) (f := 264) Tryz.func264 (by kernel_rfl) (by kernel_rfl) (by kernel_rfl) (tS := 142) (tR := 4) (e := 205) (by kernel_rfl) Tryz.underlying142 Tryz.sizeOf205, ?_⟩
  intro k i0 z h1 h2 h3 h4
  exact { mixed := by kernel_rfl, t3 := Tryz.underlying3, t4 := Tryz.underlying4, t24 := Tryz.underlying142, i9 := h1, s9 := h2, z9 := h3, zs := h4, zero3 := Tryz.zeroValue3, zero4 := Tryz.zeroValue4, agg3 := Tryz.isAgg3, agg4 := Tryz.isAgg4, agg24 := Tryz.isAgg142, size3 := Tryz.sizeOf3, size4 := Tryz.sizeOf4, size24 := Tryz.sizeOf142 }
theorem Tryz.prim206 {ext : PT ExtK} {prim : PT PrimK} {sy : PT (List SE)} {G : GS} : PrimFits Tryz.prog (mkEnvS Tryz.prog ext prim sy) G 206 (.insert 142) :=
  ⟨⟨Tryz.f206, Tryz.func206, by kernel_rfl, by kernel_rfl⟩, fun args H v H' h => insert_ok (ρ := Tryz.r206) (mkEnvS_ty Tryz.prog ext prim sy) Tryz.ins206 h (by kernel_rfl) (by kernel_rfl)⟩
def Tryz.r207 : Ren := ⟨fun | 22 => 207 | 29 => 266 | 30 => 267 | n => n, fun | 24 => 131 | 9 => 216 | n => n, fun n => n⟩
theorem Tryz.ins207 : InsFn Tryz.prog Tryz.r207 Tryz.f207 := by
  refine ⟨Tryz.func207, by kernel_rfl, Tryz.ntmps207, by kernel_rfl, ov_of (P := Tryz.prog) (f := 266) Tryz.func266 (by kernel_rfl) (by kernel_rfl) (by kernel_rfl) (tS := 131) (tR := 4) (e := 216) (by kernel_rfl) Tryz.underlying131 Tryz.sizeOf216, ?_⟩
  intro k i0 z h1 h2 h3 h4
  exact { mixed := by kernel_rfl, t3 := Tryz.underlying3, t4 := Tryz.underlying4, t24 := Tryz.underlying131, i9 := h1, s9 := h2, z9 := h3, zs := h4, zero3 := Tryz.zeroValue3, zero4 := Tryz.zeroValue4, agg3 := Tryz.isAgg3, agg4 := Tryz.isAgg4, agg24 := Tryz.isAgg131, size3 := Tryz.sizeOf3, size4 := Tryz.sizeOf4, size24 := Tryz.sizeOf131 }
theorem Tryz.prim207 {ext : PT ExtK} {prim : PT PrimK} {sy : PT (List SE)} {G : GS} : PrimFits Tryz.prog (mkEnvS Tryz.prog ext prim sy) G 207 (.insert 131) :=
  ⟨⟨Tryz.f207, Tryz.func207, by kernel_rfl, by kernel_rfl⟩, fun args H v H' h => insert_ok (ρ := Tryz.r207) (mkEnvS_ty Tryz.prog ext prim sy) Tryz.ins207 h (by kernel_rfl) (by kernel_rfl)⟩
def Tryz.r231 : Ren := ⟨fun | 22 => 231 | 29 => 287 | 30 => 288 | n => n, fun | 24 => 239 | 9 => 351 | n => n, fun n => n⟩
theorem Tryz.ins231 : InsFn Tryz.prog Tryz.r231 Tryz.f231 := by
  refine ⟨Tryz.func231, by kernel_rfl, Tryz.ntmps231, by kernel_rfl, ov_of (P := Tryz.prog) (f := 287) Tryz.func287 (by kernel_rfl) (by kernel_rfl) (by kernel_rfl) (tS := 239) (tR := 4) (e := 351) (by kernel_rfl) Tryz.underlying239 Tryz.sizeOf351, ?_⟩
  intro k i0 z h1 h2 h3 h4
  exact { mixed := by kernel_rfl, t3 := Tryz.underlying3, t4 := Tryz.underlying4, t24 := Tryz.underlying239, i9 := h1, s9 := h2, z9 := h3, zs := h4, zero3 := Tryz.zeroValue3, zero4 := Tryz.zeroValue4, agg3 := Tryz.isAgg3, agg4 := Tryz.isAgg4, agg24 := Tryz.isAgg239, size3 := Tryz.sizeOf3, size4 := Tryz.sizeOf4, size24 := Tryz.sizeOf239 }
theorem Tryz.prim231 {ext : PT ExtK} {prim : PT PrimK} {sy : PT (List SE)} {G : GS} : PrimFits Tryz.prog (mkEnvS Tryz.prog ext prim sy) G 231 (.insert 239) :=
  ⟨⟨Tryz.f231, Tryz.func231, by kernel_rfl, by kernel_rfl⟩, fun args H v H' h => insert_ok (ρ := Tryz.r231) (mkEnvS_ty Tryz.prog ext prim sy) Tryz.ins231 h (by kernel_rfl) (by kernel_rfl)⟩
end
noncomputable section
theorem Tryz.sorts (m : Nat) : AnyZ.SortsIn Tryz.prog Tryz.sortedA_ren Fence.wide m :=
  ⟨fun blk off cap ss W hH hblk hsz => callsIn_wide.2 (AnyM.slices_Sort_string Tryz.sortA blk off cap ss W hH hblk hsz), fun p cap W => callsIn_wide.2 (AnyM.slices_Sort_string_none Tryz.sortA p cap W)⟩
theorem Tryz.srt292 : SrtFn Tryz.prog Tryz.keys292_ren Tryz.sortedA_ren :=
  ⟨{ Tryz.keys292 with }, Tryz.sortedA, Tryz.sorts, enters_of Tryz.func284 (by kernel_rfl) rfl, enters_of Tryz.func292 (by kernel_rfl) rfl, by kernel_rfl⟩
theorem Tryz.srt319 : SrtFn Tryz.prog Tryz.keys319_ren Tryz.sortedA_ren :=
  ⟨{ Tryz.keys319 with }, Tryz.sortedA, Tryz.sorts, enters_of Tryz.func284 (by kernel_rfl) rfl, enters_of Tryz.func319 (by kernel_rfl) rfl, by kernel_rfl⟩
theorem Tryz.prim238 {ext : PT ExtK} {prim : PT PrimK} {sy : PT (List SE)} {G : GS} : PrimFits Tryz.prog (mkEnvS Tryz.prog ext prim sy) G 238 (.sortedKeys 9 [292, 319]) :=
  ⟨⟨Tryz.f238, Tryz.func238, by kernel_rfl, by kernel_rfl⟩, fun args H v H' h => sorted_any (ρs := Tryz.sortedA_ren) (l := [Tryz.keys292_ren, Tryz.keys319_ren]) (by
    intro r hr
    simp only [List.mem_cons, List.mem_nil_iff, or_false] at hr
    rcases hr with rfl | rfl
    · exact Tryz.srt292
    · exact Tryz.srt319
    ) h⟩
end
noncomputable section
theorem Tryz.sortsI (m : Nat) : AnyZI.SortsIn Tryz.prog Tryz.sortedI_ren Fence.wide m :=
  ⟨fun blk off cap ss W hH hblk hsz => callsIn_wide.2 (AnyM.slices_Sort_int Tryz.sortI blk off cap ss W hH hblk hsz), fun p cap W => callsIn_wide.2 (AnyM.slices_Sort_int_none Tryz.sortI p cap W)⟩
theorem Tryz.srtI130 : SrtFnI Tryz.prog Tryz.keysI130_ren Tryz.sortedI_ren :=
  ⟨{ Tryz.keysI130 with }, Tryz.sortedI, Tryz.sortsI, enters_of Tryz.func129 (by kernel_rfl) rfl, enters_of Tryz.func130 (by kernel_rfl) rfl, by kernel_rfl⟩
theorem Tryz.prim75 {ext : PT ExtK} {prim : PT PrimK} {sy : PT (List SE)} {G : GS} : PrimFits Tryz.prog (mkEnvS Tryz.prog ext prim sy) G 75 (.sortedInts 3 [130]) :=
  ⟨⟨Tryz.f75, Tryz.func75, by kernel_rfl, by kernel_rfl⟩, fun args H v H' h => sortedI_any (ρs := Tryz.sortedI_ren) (l := [Tryz.keysI130_ren]) (by
    intro r hr
    simp only [List.mem_cons, List.mem_nil_iff, or_false] at hr
    rcases hr with rfl
    · exact Tryz.srtI130
    ) h⟩
def Tryz.primL : List (Nat × PrimK) := [(202, .insert 136), (204, .insert 139), (206, .insert 142), (207, .insert 131), (231, .insert 239), (238, .sortedKeys 9 [292, 319]), (75, .sortedInts 3 [130])]
theorem Tryz.primsOk {ext : PT ExtK} {prim : PT PrimK} {sy : PT (List SE)} {G : GS} : ∀ x ∈ Tryz.primL, PrimFits Tryz.prog (mkEnvS Tryz.prog ext prim sy) G x.1 x.2 := by
  intro x hx
  simp only [Tryz.primL, List.mem_cons, List.mem_nil_iff, or_false] at hx
  rcases hx with rfl | rfl | rfl | rfl | rfl | rfl | rfl
  · exact Tryz.prim202
  · exact Tryz.prim204
  · exact Tryz.prim206
  · exact Tryz.prim207
  · exact Tryz.prim231
  · exact Tryz.prim238
  · exact Tryz.prim75
theorem Tryz.chk0 : (List.range' 0 60).all (chkF Tryz.prog) = true := by kernel_rfl
theorem Tryz.chk1 : (List.range' 60 60).all (chkF Tryz.prog) = true := by kernel_rfl
theorem Tryz.chk2 : (List.range' 120 60).all (chkF Tryz.prog) = true := by kernel_rfl
theorem Tryz.chk3 : (List.range' 180 60).all (chkF Tryz.prog) = true := by kernel_rfl
theorem Tryz.chk4 : (List.range' 240 60).all (chkF Tryz.prog) = true := by kernel_rfl
theorem Tryz.chk5 : (List.range' 300 60).all (chkF Tryz.prog) = true := by kernel_rfl
theorem Tryz.chk6 : (List.range' 360 60).all (chkF Tryz.prog) = true := by kernel_rfl
theorem Tryz.nfuncs : Tryz.prog.funcs.size = 411 := by kernel_rfl
theorem Tryz.nglob : Tryz.prog.globals.size = 8 := by kernel_rfl
theorem Tryz.chk : ∀ f, f < Tryz.prog.funcs.size → chkF Tryz.prog f = true := by
  intro f hf
  rw [Tryz.nfuncs] at hf
  by_cases h0 : f < 60
  · exact all_range Tryz.chk0 f (by omega) (by omega)
  by_cases h1 : f < 120
  · exact all_range Tryz.chk1 f (by omega) (by omega)
  by_cases h2 : f < 180
  · exact all_range Tryz.chk2 f (by omega) (by omega)
  by_cases h3 : f < 240
  · exact all_range Tryz.chk3 f (by omega) (by omega)
  by_cases h4 : f < 300
  · exact all_range Tryz.chk4 f (by omega) (by omega)
  by_cases h5 : f < 360
  · exact all_range Tryz.chk5 f (by omega) (by omega)
  exact all_range Tryz.chk6 f (by omega) (by omega)
def Tryz.gtL : List (Nat × List Value) := [(3, [.int .u64 1, .int .u64 10, .int .u64 100, .int .u64 1000, .int .u64 10000, .int .u64 100000, .int .u64 1000000, .int .u64 10000000, .int .u64 100000000, .int .u64 1000000000, .int .u64 10000000000, .int .u64 100000000000, .int .u64 1000000000000, .int .u64 10000000000000, .int .u64 100000000000000, .int .u64 1000000000000000, .int .u64 10000000000000000, .int .u64 100000000000000000, .int .u64 1000000000000000000, .int .u64 10000000000000000000]), (6, [.int .u8 0, .int .u8 1, .int .u8 28, .int .u8 2, .int .u8 29, .int .u8 14, .int .u8 24, .int .u8 3, .int .u8 30, .int .u8 22, .int .u8 20, .int .u8 15, .int .u8 25, .int .u8 17, .int .u8 4, .int .u8 8, .int .u8 31, .int .u8 27, .int .u8 13, .int .u8 23, .int .u8 21, .int .u8 19, .int .u8 16, .int .u8 7, .int .u8 26, .int .u8 12, .int .u8 18, .int .u8 6, .int .u8 11, .int .u8 5, .int .u8 10, .int .u8 9]), (7, [.int .u8 0, .int .u8 1, .int .u8 56, .int .u8 2, .int .u8 57, .int .u8 49, .int .u8 28, .int .u8 3, .int .u8 61, .int .u8 58, .int .u8 42, .int .u8 50, .int .u8 38, .int .u8 29, .int .u8 17, .int .u8 4, .int .u8 62, .int .u8 47, .int .u8 59, .int .u8 36, .int .u8 45, .int .u8 43, .int .u8 51, .int .u8 22, .int .u8 53, .int .u8 39, .int .u8 33, .int .u8 30, .int .u8 24, .int .u8 18, .int .u8 12, .int .u8 5, .int .u8 63, .int .u8 55, .int .u8 48, .int .u8 27, .int .u8 60, .int .u8 41, .int .u8 37, .int .u8 16, .int .u8 46, .int .u8 35, .int .u8 44, .int .u8 21, .int .u8 52, .int .u8 32, .int .u8 23, .int .u8 11, .int .u8 54, .int .u8 26, .int .u8 40, .int .u8 15, .int .u8 34, .int .u8 20, .int .u8 31, .int .u8 10, .int .u8 25, .int .u8 14, .int .u8 19, .int .u8 9, .int .u8 13, .int .u8 8, .int .u8 7, .int .u8 6])]
def Tryz.H0 : Heap := firstHeapT 8 Tryz.gsL Tryz.gtL
def Tryz.Gm (mu : Mu) : GS := initGSm 8 Tryz.H0 mu
def Tryz.Es (m : List (Nat × PrimK)) (sy : PT (List SE)) : Go.Vsx.Env := mkEnvS Tryz.prog Tryz.ext (ptOf (m ++ Tryz.primL)) sy
theorem Tryz.callOkS (m : List (Nat × PrimK)) (sy : PT (List SE)) (mu : Mu) (hm : ∀ x ∈ m, PrimFits Tryz.prog (Tryz.Es m sy) (Tryz.Gm mu) x.1 x.2) (hy : SymOk (Tryz.Es m sy) mu) (n : Nat) :
    CallOk Tryz.prog (Tryz.Gm mu) (callE (Tryz.Es m sy) (execC (Tryz.Es m sy) n)) :=
  Vsx.callOkS Tryz.nglob (by kernel_rfl) Tryz.extOk Tryz.chk (prim_of rfl fun x hx => (List.mem_append.1 hx).elim (hm x) (Tryz.primsOk x)) hy n
theorem Tryz.callOk (m : List (Nat × PrimK)) (hm : ∀ x ∈ m, PrimFits Tryz.prog (Tryz.Es m .leaf) (Tryz.Gm noMu) x.1 x.2) (n : Nat) :
    CallOk Tryz.prog (Tryz.Gm noMu) (callE (Tryz.Es m .leaf) (execC (Tryz.Es m .leaf) n)) := Tryz.callOkS m .leaf noMu hm (.none rfl) n
theorem Tryz.right (m : List (Nat × PrimK)) (sy : PT (List SE)) (mu : Mu) (W : World) (hm : ∀ x ∈ m, PrimFits Tryz.prog (Tryz.Es m sy) (Tryz.Gm mu) x.1 x.2) (hy : SymOk (Tryz.Es m sy) mu) :
    Right Tryz.prog (Tryz.Es m sy) (lawG 8 Tryz.H0 W mu) :=
  right_of Tryz.nglob (by kernel_rfl) Tryz.extOk Tryz.chk (prim_of rfl fun x hx => (List.mem_append.1 hx).elim (fun h => (hm x h).law) (Tryz.primsOk x)) hy
end

end Go.Proofs
