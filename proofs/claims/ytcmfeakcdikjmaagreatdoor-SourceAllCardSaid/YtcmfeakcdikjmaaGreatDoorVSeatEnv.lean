/- What the executor is told of this program: its library functions without a body, the functions that are taken by a contract (slices.Insert, slices.Sorted), and that each function passes the static check. No conditions. -/
import Derived.Test.YtcmfeakcdikjmaaGreatDoorVTab
import Derived.Test.YtcmfeakcdikjmaaGreatDoorVIns2
import Derived.Test.YtcmfeakcdikjmaaGreatDoorVSrt
import Derived.Test.YtcmfeakcdikjmaaGreatDoorVSrtI
import Derived.Test.YtcmfeakcdikjmaaGreatDoorVSeatLay
import Derived.Test.YtcmfeakcdikjmaaGreatDoorProg
import Derived.KernelRfl
set_option linter.all false
namespace Go.Proofs
open Go Go.Vsx Go.Shelf Go.RowKit
set_option maxRecDepth 1000000
noncomputable section
def Tryz.extL : List (Nat × ExtK) := [(321, .count), (326, .noEscape), (327, .makeNoZero 5), (330, .cmp), (367, .indexByte), (369, .mapsClone)]
def Tryz.ext : PT ExtK := ptOf Tryz.extL
theorem Tryz.extOk : ∀ f k, Tryz.ext.get f = some k → ExtFits Tryz.prog f k := by
  intro f k h
  have hm := ptOf_mem _ f k h
  simp only [Tryz.extL, List.mem_cons, List.mem_nil_iff, or_false, Prod.mk.injEq] at hm
  rcases hm with ⟨rfl, rfl⟩ | ⟨rfl, rfl⟩ | ⟨rfl, rfl⟩ | ⟨rfl, rfl⟩ | ⟨rfl, rfl⟩ | ⟨rfl, rfl⟩
  · exact ⟨Tryz.f321, Tryz.func321, by kernel_rfl, by kernel_rfl, by kernel_rfl, show Extern.find Tryz.f321 = some Extern.BytealgCount.count from by kernel_rfl⟩
  · exact ⟨Tryz.f326, Tryz.func326, by kernel_rfl, by kernel_rfl, by kernel_rfl, show Extern.find Tryz.f326 = some Extern.AbiNoEscape.same from by kernel_rfl⟩
  · exact ⟨Tryz.f327, Tryz.func327, by kernel_rfl, by kernel_rfl, by kernel_rfl, ⟨#[3], 151, by kernel_rfl, Tryz.underlying151⟩⟩
  · exact ⟨Tryz.f330, Tryz.func330, by kernel_rfl, by kernel_rfl, by kernel_rfl, show Extern.find Tryz.f330 = some Extern.BytealgCompare.compare from by kernel_rfl⟩
  · exact ⟨Tryz.f367, Tryz.func367, by kernel_rfl, by kernel_rfl, by kernel_rfl, show Extern.find Tryz.f367 = some Extern.BytealgIndexByte.indexByte from by kernel_rfl⟩
  · exact ⟨Tryz.f369, Tryz.func369, by kernel_rfl, by kernel_rfl, by kernel_rfl, show Extern.find Tryz.f369 = some Extern.MapsClone.clone from by kernel_rfl⟩
def Tryz.gsL : List Nat := [0, 1]
def Tryz.r191 : Ren := ⟨fun | 22 => 191 | 29 => 252 | 30 => 253 | n => n, fun | 24 => 132 | 9 => 194 | n => n, fun n => n⟩
theorem Tryz.ins191 : InsFn Tryz.prog Tryz.r191 Tryz.f191 := by
  refine ⟨Tryz.func191, by kernel_rfl, Tryz.ntmps191, by kernel_rfl, ov_of (P := Tryz.prog) (f := 252) Tryz.func252 (by kernel_rfl) (by kernel_rfl) (by kernel_rfl) (tS := 132) (tR := 4) (e := 194) (by kernel_rfl) Tryz.underlying132 Tryz.sizeOf194, ?_⟩
  intro k i0 z h1 h2 h3 h4
  exact { mixed := by kernel_rfl, t3 := Tryz.underlying3, t4 := Tryz.underlying4, t24 := Tryz.underlying132, i9 := h1, s9 := h2, z9 := h3, zs := h4, zero3 := Tryz.zeroValue3, zero4 := Tryz.zeroValue4, agg3 := Tryz.isAgg3, agg4 := Tryz.isAgg4, agg24 := Tryz.isAgg132, size3 := Tryz.sizeOf3, size4 := Tryz.sizeOf4, size24 := Tryz.sizeOf132 }
theorem Tryz.prim191 {ext : PT ExtK} {prim : PT PrimK} {sy : PT (List SE)} {G : GS} : PrimFits Tryz.prog (mkEnvS Tryz.prog ext prim sy) G 191 (.insert 132) :=
  ⟨⟨Tryz.f191, Tryz.func191, by kernel_rfl, by kernel_rfl⟩, fun args H v H' h => insert_ok (ρ := Tryz.r191) (mkEnvS_ty Tryz.prog ext prim sy) Tryz.ins191 h (by kernel_rfl) (by kernel_rfl)⟩
def Tryz.r192 : Ren := ⟨fun | 22 => 192 | 29 => 254 | 30 => 255 | n => n, fun | 24 => 135 | 9 => 196 | n => n, fun n => n⟩
theorem Tryz.ins192 : InsFn Tryz.prog Tryz.r192 Tryz.f192 := by
  refine ⟨Tryz.func192, by kernel_rfl, Tryz.ntmps192, by kernel_rfl, ov_of (P := Tryz.prog) (f := 254) Tryz.func254 (by kernel_rfl) (by kernel_rfl) (by kernel_rfl) (tS := 135) (tR := 4) (e := 196) (by kernel_rfl) Tryz.underlying135 Tryz.sizeOf196, ?_⟩
  intro k i0 z h1 h2 h3 h4
  exact { mixed := by kernel_rfl, t3 := Tryz.underlying3, t4 := Tryz.underlying4, t24 := Tryz.underlying135, i9 := h1, s9 := h2, z9 := h3, zs := h4, zero3 := Tryz.zeroValue3, zero4 := Tryz.zeroValue4, agg3 := Tryz.isAgg3, agg4 := Tryz.isAgg4, agg24 := Tryz.isAgg135, size3 := Tryz.sizeOf3, size4 := Tryz.sizeOf4, size24 := Tryz.sizeOf135 }
theorem Tryz.prim192 {ext : PT ExtK} {prim : PT PrimK} {sy : PT (List SE)} {G : GS} : PrimFits Tryz.prog (mkEnvS Tryz.prog ext prim sy) G 192 (.insert 135) :=
  ⟨⟨Tryz.f192, Tryz.func192, by kernel_rfl, by kernel_rfl⟩, fun args H v H' h => insert_ok (ρ := Tryz.r192) (mkEnvS_ty Tryz.prog ext prim sy) Tryz.ins192 h (by kernel_rfl) (by kernel_rfl)⟩
def Tryz.r193 : Ren := ⟨fun | 22 => 193 | 29 => 256 | 30 => 257 | n => n, fun | 24 => 138 | 9 => 198 | n => n, fun n => n⟩
theorem Tryz.ins193 : InsFn Tryz.prog Tryz.r193 Tryz.f193 := by
  refine ⟨Tryz.func193, by kernel_rfl, Tryz.ntmps193, by kernel_rfl, ov_of (P := Tryz.prog) (f := 256) Tryz.func256 (by kernel_rfl) (by kernel_rfl) (by kernel_rfl) (tS := 138) (tR := 4) (e := 198) (by kernel_rfl) Tryz.underlying138 Tryz.sizeOf198, ?_⟩
  intro k i0 z h1 h2 h3 h4
  exact { mixed := by kernel_rfl, t3 := Tryz.underlying3, t4 := Tryz.underlying4, t24 := Tryz.underlying138, i9 := h1, s9 := h2, z9 := h3, zs := h4, zero3 := Tryz.zeroValue3, zero4 := Tryz.zeroValue4, agg3 := Tryz.isAgg3, agg4 := Tryz.isAgg4, agg24 := Tryz.isAgg138, size3 := Tryz.sizeOf3, size4 := Tryz.sizeOf4, size24 := Tryz.sizeOf138 }
theorem Tryz.prim193 {ext : PT ExtK} {prim : PT PrimK} {sy : PT (List SE)} {G : GS} : PrimFits Tryz.prog (mkEnvS Tryz.prog ext prim sy) G 193 (.insert 138) :=
  ⟨⟨Tryz.f193, Tryz.func193, by kernel_rfl, by kernel_rfl⟩, fun args H v H' h => insert_ok (ρ := Tryz.r193) (mkEnvS_ty Tryz.prog ext prim sy) Tryz.ins193 h (by kernel_rfl) (by kernel_rfl)⟩
def Tryz.r194 : Ren := ⟨fun | 22 => 194 | 29 => 258 | 30 => 259 | n => n, fun | 24 => 127 | 9 => 209 | n => n, fun n => n⟩
theorem Tryz.ins194 : InsFn Tryz.prog Tryz.r194 Tryz.f194 := by
  refine ⟨Tryz.func194, by kernel_rfl, Tryz.ntmps194, by kernel_rfl, ov_of (P := Tryz.prog) (f := 258) Tryz.func258 (by kernel_rfl) (by kernel_rfl) (by kernel_rfl) (tS := 127) (tR := 4) (e := 209) (by kernel_rfl) Tryz.underlying127 Tryz.sizeOf209, ?_⟩
  intro k i0 z h1 h2 h3 h4
  exact { mixed := by kernel_rfl, t3 := Tryz.underlying3, t4 := Tryz.underlying4, t24 := Tryz.underlying127, i9 := h1, s9 := h2, z9 := h3, zs := h4, zero3 := Tryz.zeroValue3, zero4 := Tryz.zeroValue4, agg3 := Tryz.isAgg3, agg4 := Tryz.isAgg4, agg24 := Tryz.isAgg127, size3 := Tryz.sizeOf3, size4 := Tryz.sizeOf4, size24 := Tryz.sizeOf127 }
theorem Tryz.prim194 {ext : PT ExtK} {prim : PT PrimK} {sy : PT (List SE)} {G : GS} : PrimFits Tryz.prog (mkEnvS Tryz.prog ext prim sy) G 194 (.insert 127) :=
  ⟨⟨Tryz.f194, Tryz.func194, by kernel_rfl, by kernel_rfl⟩, fun args H v H' h => insert_ok (ρ := Tryz.r194) (mkEnvS_ty Tryz.prog ext prim sy) Tryz.ins194 h (by kernel_rfl) (by kernel_rfl)⟩
def Tryz.r220 : Ren := ⟨fun | 22 => 220 | 29 => 279 | 30 => 280 | n => n, fun | 24 => 229 | 9 => 341 | n => n, fun n => n⟩
theorem Tryz.ins220 : InsFn Tryz.prog Tryz.r220 Tryz.f220 := by
  refine ⟨Tryz.func220, by kernel_rfl, Tryz.ntmps220, by kernel_rfl, ov_of (P := Tryz.prog) (f := 279) Tryz.func279 (by kernel_rfl) (by kernel_rfl) (by kernel_rfl) (tS := 229) (tR := 4) (e := 341) (by kernel_rfl) Tryz.underlying229 Tryz.sizeOf341, ?_⟩
  intro k i0 z h1 h2 h3 h4
  exact { mixed := by kernel_rfl, t3 := Tryz.underlying3, t4 := Tryz.underlying4, t24 := Tryz.underlying229, i9 := h1, s9 := h2, z9 := h3, zs := h4, zero3 := Tryz.zeroValue3, zero4 := Tryz.zeroValue4, agg3 := Tryz.isAgg3, agg4 := Tryz.isAgg4, agg24 := Tryz.isAgg229, size3 := Tryz.sizeOf3, size4 := Tryz.sizeOf4, size24 := Tryz.sizeOf229 }
theorem Tryz.prim220 {ext : PT ExtK} {prim : PT PrimK} {sy : PT (List SE)} {G : GS} : PrimFits Tryz.prog (mkEnvS Tryz.prog ext prim sy) G 220 (.insert 229) :=
  ⟨⟨Tryz.f220, Tryz.func220, by kernel_rfl, by kernel_rfl⟩, fun args H v H' h => insert_ok (ρ := Tryz.r220) (mkEnvS_ty Tryz.prog ext prim sy) Tryz.ins220 h (by kernel_rfl) (by kernel_rfl)⟩
end
noncomputable section
theorem Tryz.sorts (m : Nat) : AnyZ.SortsIn Tryz.prog Tryz.sortedA_ren Fence.wide m :=
  ⟨fun blk off cap ss W hH hblk hsz => callsIn_wide.2 (AnyM.slices_Sort_string Tryz.sortA blk off cap ss W hH hblk hsz), fun p cap W => callsIn_wide.2 (AnyM.slices_Sort_string_none Tryz.sortA p cap W)⟩
theorem Tryz.srt288 : SrtFn Tryz.prog Tryz.keys288_ren Tryz.sortedA_ren :=
  ⟨{ Tryz.keys288 with }, Tryz.sortedA, Tryz.sorts, enters_of Tryz.func276 (by kernel_rfl) rfl, enters_of Tryz.func288 (by kernel_rfl) rfl, by kernel_rfl⟩
theorem Tryz.srt315 : SrtFn Tryz.prog Tryz.keys315_ren Tryz.sortedA_ren :=
  ⟨{ Tryz.keys315 with }, Tryz.sortedA, Tryz.sorts, enters_of Tryz.func276 (by kernel_rfl) rfl, enters_of Tryz.func315 (by kernel_rfl) rfl, by kernel_rfl⟩
theorem Tryz.prim230 {ext : PT ExtK} {prim : PT PrimK} {sy : PT (List SE)} {G : GS} : PrimFits Tryz.prog (mkEnvS Tryz.prog ext prim sy) G 230 (.sortedKeys 9 [288, 315]) :=
  ⟨⟨Tryz.f230, Tryz.func230, by kernel_rfl, by kernel_rfl⟩, fun args H v H' h => sorted_any (ρs := Tryz.sortedA_ren) (l := [Tryz.keys288_ren, Tryz.keys315_ren]) (by
    intro r hr
    simp only [List.mem_cons, List.mem_nil_iff, or_false] at hr
    rcases hr with rfl | rfl
    · exact Tryz.srt288
    · exact Tryz.srt315
    ) h⟩
end
noncomputable section
theorem Tryz.sortsI (m : Nat) : AnyZI.SortsIn Tryz.prog Tryz.sortedI_ren Fence.wide m :=
  ⟨fun blk off cap ss W hH hblk hsz => callsIn_wide.2 (AnyM.slices_Sort_int Tryz.sortI blk off cap ss W hH hblk hsz), fun p cap W => callsIn_wide.2 (AnyM.slices_Sort_int_none Tryz.sortI p cap W)⟩
theorem Tryz.srtI114 : SrtFnI Tryz.prog Tryz.keysI114_ren Tryz.sortedI_ren :=
  ⟨{ Tryz.keysI114 with }, Tryz.sortedI, Tryz.sortsI, enters_of Tryz.func113 (by kernel_rfl) rfl, enters_of Tryz.func114 (by kernel_rfl) rfl, by kernel_rfl⟩
theorem Tryz.prim65 {ext : PT ExtK} {prim : PT PrimK} {sy : PT (List SE)} {G : GS} : PrimFits Tryz.prog (mkEnvS Tryz.prog ext prim sy) G 65 (.sortedInts 3 [114]) :=
  ⟨⟨Tryz.f65, Tryz.func65, by kernel_rfl, by kernel_rfl⟩, fun args H v H' h => sortedI_any (ρs := Tryz.sortedI_ren) (l := [Tryz.keysI114_ren]) (by
    intro r hr
    simp only [List.mem_cons, List.mem_nil_iff, or_false] at hr
    rcases hr with rfl
    · exact Tryz.srtI114
    ) h⟩
def Tryz.primL : List (Nat × PrimK) := [(191, .insert 132), (192, .insert 135), (193, .insert 138), (194, .insert 127), (220, .insert 229), (230, .sortedKeys 9 [288, 315]), (65, .sortedInts 3 [114])]
theorem Tryz.primsOk {ext : PT ExtK} {prim : PT PrimK} {sy : PT (List SE)} {G : GS} : ∀ x ∈ Tryz.primL, PrimFits Tryz.prog (mkEnvS Tryz.prog ext prim sy) G x.1 x.2 := by
  intro x hx
  simp only [Tryz.primL, List.mem_cons, List.mem_nil_iff, or_false] at hx
  rcases hx with rfl | rfl | rfl | rfl | rfl | rfl | rfl
  · exact Tryz.prim191
  · exact Tryz.prim192
  · exact Tryz.prim193
  · exact Tryz.prim194
  · exact Tryz.prim220
  · exact Tryz.prim230
  · exact Tryz.prim65
theorem Tryz.chk0 : (List.range' 0 60).all (chkF Tryz.prog) = true := by kernel_rfl
theorem Tryz.chk1 : (List.range' 60 60).all (chkF Tryz.prog) = true := by kernel_rfl
theorem Tryz.chk2 : (List.range' 120 60).all (chkF Tryz.prog) = true := by kernel_rfl
theorem Tryz.chk3 : (List.range' 180 60).all (chkF Tryz.prog) = true := by kernel_rfl
theorem Tryz.chk4 : (List.range' 240 60).all (chkF Tryz.prog) = true := by kernel_rfl
theorem Tryz.chk5 : (List.range' 300 60).all (chkF Tryz.prog) = true := by kernel_rfl
theorem Tryz.chk6 : (List.range' 360 60).all (chkF Tryz.prog) = true := by kernel_rfl
theorem Tryz.nfuncs : Tryz.prog.funcs.size = 407 := by kernel_rfl
theorem Tryz.nglob : Tryz.prog.globals.size = 8 := by kernel_rfl
theorem Tryz.chk : ∀ f, f < Tryz.prog.funcs.size → chkF Tryz.prog f = true := by
  intro f hf
  rw [Tryz.nfuncs] at hf
  by_cases h0 : f < 60
  · exact all_range Tryz.chk0 f (by omega) (by omega)
  by_cases h1 : f < 120
  · exact all_range Tryz.chk1 f (by omega) (by omega)
  by_cases h2 : f < 180
  · exact all_range Tryz.chk2 f (by omega) (by omega)
  by_cases h3 : f < 240
  · exact all_range Tryz.chk3 f (by omega) (by omega)
  by_cases h4 : f < 300
  · exact all_range Tryz.chk4 f (by omega) (by omega)
  by_cases h5 : f < 360
  · exact all_range Tryz.chk5 f (by omega) (by omega)
  exact all_range Tryz.chk6 f (by omega) (by omega)
def Tryz.gtL : List (Nat × List Value) := [(3, [.int .u64 1, .int .u64 10, .int .u64 100, .int .u64 1000, .int .u64 10000, .int .u64 100000, .int .u64 1000000, .int .u64 10000000, .int .u64 100000000, .int .u64 1000000000, .int .u64 10000000000, .int .u64 100000000000, .int .u64 1000000000000, .int .u64 10000000000000, .int .u64 100000000000000, .int .u64 1000000000000000, .int .u64 10000000000000000, .int .u64 100000000000000000, .int .u64 1000000000000000000, .int .u64 10000000000000000000]), (6, [.int .u8 0, .int .u8 1, .int .u8 28, .int .u8 2, .int .u8 29, .int .u8 14, .int .u8 24, .int .u8 3, .int .u8 30, .int .u8 22, .int .u8 20, .int .u8 15, .int .u8 25, .int .u8 17, .int .u8 4, .int .u8 8, .int .u8 31, .int .u8 27, .int .u8 13, .int .u8 23, .int .u8 21, .int .u8 19, .int .u8 16, .int .u8 7, .int .u8 26, .int .u8 12, .int .u8 18, .int .u8 6, .int .u8 11, .int .u8 5, .int .u8 10, .int .u8 9]), (7, [.int .u8 0, .int .u8 1, .int .u8 56, .int .u8 2, .int .u8 57, .int .u8 49, .int .u8 28, .int .u8 3, .int .u8 61, .int .u8 58, .int .u8 42, .int .u8 50, .int .u8 38, .int .u8 29, .int .u8 17, .int .u8 4, .int .u8 62, .int .u8 47, .int .u8 59, .int .u8 36, .int .u8 45, .int .u8 43, .int .u8 51, .int .u8 22, .int .u8 53, .int .u8 39, .int .u8 33, .int .u8 30, .int .u8 24, .int .u8 18, .int .u8 12, .int .u8 5, .int .u8 63, .int .u8 55, .int .u8 48, .int .u8 27, .int .u8 60, .int .u8 41, .int .u8 37, .int .u8 16, .int .u8 46, .int .u8 35, .int .u8 44, .int .u8 21, .int .u8 52, .int .u8 32, .int .u8 23, .int .u8 11, .int .u8 54, .int .u8 26, .int .u8 40, .int .u8 15, .int .u8 34, .int .u8 20, .int .u8 31, .int .u8 10, .int .u8 25, .int .u8 14, .int .u8 19, .int .u8 9, .int .u8 13, .int .u8 8, .int .u8 7, .int .u8 6])]
def Tryz.H0 : Heap := firstHeapT 8 Tryz.gsL Tryz.gtL
def Tryz.Gm (mu : Mu) : GS := initGSm 8 Tryz.H0 mu
def Tryz.Es (m : List (Nat × PrimK)) (sy : PT (List SE)) : Go.Vsx.Env := mkEnvS Tryz.prog Tryz.ext (ptOf (m ++ Tryz.primL)) sy
theorem Tryz.callOkS (m : List (Nat × PrimK)) (sy : PT (List SE)) (mu : Mu) (hm : ∀ x ∈ m, PrimFits Tryz.prog (Tryz.Es m sy) (Tryz.Gm mu) x.1 x.2) (hy : SymOk (Tryz.Es m sy) mu) (n : Nat) :
    CallOk Tryz.prog (Tryz.Gm mu) (callE (Tryz.Es m sy) (execC (Tryz.Es m sy) n)) :=
  Vsx.callOkS Tryz.nglob (by kernel_rfl) Tryz.extOk Tryz.chk (prim_of rfl fun x hx => (List.mem_append.1 hx).elim (hm x) (Tryz.primsOk x)) hy n
theorem Tryz.callOk (m : List (Nat × PrimK)) (hm : ∀ x ∈ m, PrimFits Tryz.prog (Tryz.Es m .leaf) (Tryz.Gm noMu) x.1 x.2) (n : Nat) :
    CallOk Tryz.prog (Tryz.Gm noMu) (callE (Tryz.Es m .leaf) (execC (Tryz.Es m .leaf) n)) := Tryz.callOkS m .leaf noMu hm (.none rfl) n
theorem Tryz.right (m : List (Nat × PrimK)) (sy : PT (List SE)) (mu : Mu) (W : World) (hm : ∀ x ∈ m, PrimFits Tryz.prog (Tryz.Es m sy) (Tryz.Gm mu) x.1 x.2) (hy : SymOk (Tryz.Es m sy) mu) :
    Right Tryz.prog (Tryz.Es m sy) (lawG 8 Tryz.H0 W mu) :=
  right_of Tryz.nglob (by kernel_rfl) Tryz.extOk Tryz.chk (prim_of rfl fun x hx => (List.mem_append.1 hx).elim (fun h => (hm x h).law) (Tryz.primsOk x)) hy
end

end Go.Proofs
