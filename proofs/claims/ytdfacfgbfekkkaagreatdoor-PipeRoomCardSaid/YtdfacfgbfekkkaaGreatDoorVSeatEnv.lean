/- What the executor is told of this program: its library functions without a body, the functions that are taken by a contract (slices.Insert, slices.Sorted), and that each function passes the static check. No conditions. -/
import Derived.Test.YtdfacfgbfekkkaaGreatDoorVMemo
import Derived.Test.YtdfacfgbfekkkaaGreatDoorVIns2
import Derived.Test.YtdfacfgbfekkkaaGreatDoorVSrt
import Derived.Test.YtdfacfgbfekkkaaGreatDoorVSrtI
import Derived.Test.YtdfacfgbfekkkaaGreatDoorVSeatLay
import Derived.Test.YtdfacfgbfekkkaaGreatDoorProg
import Derived.KernelRfl
set_option linter.all false
namespace Go.Proofs
open Go Go.Vsx Go.Shelf Go.RowKit
set_option maxRecDepth 1000000
noncomputable section
def Tryz.extL : List (Nat × ExtK) := [(323, .count), (328, .noEscape), (329, .makeNoZero 5), (332, .cmp), (369, .indexByte), (371, .mapsClone)]
def Tryz.ext : PT ExtK := ptOf Tryz.extL
theorem Tryz.extOk : ∀ f k, Tryz.ext.get f = some k → ExtFits Tryz.prog f k := by
  intro f k h
  have hm := ptOf_mem _ f k h
  simp only [Tryz.extL, List.mem_cons, List.mem_nil_iff, or_false, Prod.mk.injEq] at hm
  rcases hm with ⟨rfl, rfl⟩ | ⟨rfl, rfl⟩ | ⟨rfl, rfl⟩ | ⟨rfl, rfl⟩ | ⟨rfl, rfl⟩ | ⟨rfl, rfl⟩
  · exact ⟨Tryz.f323, Tryz.func323, by kernel_rfl, by kernel_rfl, by kernel_rfl, show Extern.find Tryz.f323 = some Extern.BytealgCount.count from by kernel_rfl⟩
  · exact ⟨Tryz.f328, Tryz.func328, by kernel_rfl, by kernel_rfl, by kernel_rfl, show Extern.find Tryz.f328 = some Extern.AbiNoEscape.same from by kernel_rfl⟩
  · exact ⟨Tryz.f329, Tryz.func329, by kernel_rfl, by kernel_rfl, by kernel_rfl, ⟨#[3], 148, by kernel_rfl, Tryz.underlying148⟩⟩
  · exact ⟨Tryz.f332, Tryz.func332, by kernel_rfl, by kernel_rfl, by kernel_rfl, show Extern.find Tryz.f332 = some Extern.BytealgCompare.compare from by kernel_rfl⟩
  · exact ⟨Tryz.f369, Tryz.func369, by kernel_rfl, by kernel_rfl, by kernel_rfl, show Extern.find Tryz.f369 = some Extern.BytealgIndexByte.indexByte from by kernel_rfl⟩
  · exact ⟨Tryz.f371, Tryz.func371, by kernel_rfl, by kernel_rfl, by kernel_rfl, show Extern.find Tryz.f371 = some Extern.MapsClone.clone from by kernel_rfl⟩
def Tryz.gsL : List Nat := [0, 1]
def Tryz.r193 : Ren := ⟨fun | 22 => 193 | 29 => 254 | 30 => 255 | n => n, fun | 24 => 129 | 9 => 191 | n => n, fun n => n⟩
theorem Tryz.ins193 : InsFn Tryz.prog Tryz.r193 Tryz.f193 := by
  refine ⟨Tryz.func193, by kernel_rfl, Tryz.ntmps193, by kernel_rfl, ov_of (P := Tryz.prog) (f := 254) Tryz.func254 (by kernel_rfl) (by kernel_rfl) (by kernel_rfl) (tS := 129) (tR := 4) (e := 191) (by kernel_rfl) Tryz.underlying129 Tryz.sizeOf191, ?_⟩
  intro k i0 z h1 h2 h3 h4
  exact { mixed := by kernel_rfl, t3 := Tryz.underlying3, t4 := Tryz.underlying4, t24 := Tryz.underlying129, i9 := h1, s9 := h2, z9 := h3, zs := h4, zero3 := Tryz.zeroValue3, zero4 := Tryz.zeroValue4, agg3 := Tryz.isAgg3, agg4 := Tryz.isAgg4, agg24 := Tryz.isAgg129, size3 := Tryz.sizeOf3, size4 := Tryz.sizeOf4, size24 := Tryz.sizeOf129 }
theorem Tryz.prim193 {ext : PT ExtK} {prim : PT PrimK} {sy : PT (List SE)} {G : GS} : PrimFits Tryz.prog (mkEnvS Tryz.prog ext prim sy) G 193 (.insert 129) :=
  ⟨⟨Tryz.f193, Tryz.func193, by kernel_rfl, by kernel_rfl⟩, fun args H v H' h => insert_ok (ρ := Tryz.r193) (mkEnvS_ty Tryz.prog ext prim sy) Tryz.ins193 h (by kernel_rfl) (by kernel_rfl)⟩
def Tryz.r194 : Ren := ⟨fun | 22 => 194 | 29 => 256 | 30 => 257 | n => n, fun | 24 => 132 | 9 => 193 | n => n, fun n => n⟩
theorem Tryz.ins194 : InsFn Tryz.prog Tryz.r194 Tryz.f194 := by
  refine ⟨Tryz.func194, by kernel_rfl, Tryz.ntmps194, by kernel_rfl, ov_of (P := Tryz.prog) (f := 256) Tryz.func256 (by kernel_rfl) (by kernel_rfl) (by kernel_rfl) (tS := 132) (tR := 4) (e := 193) (by kernel_rfl) Tryz.underlying132 Tryz.sizeOf193, ?_⟩
  intro k i0 z h1 h2 h3 h4
  exact { mixed := by kernel_rfl, t3 := Tryz.underlying3, t4 := Tryz.underlying4, t24 := Tryz.underlying132, i9 := h1, s9 := h2, z9 := h3, zs := h4, zero3 := Tryz.zeroValue3, zero4 := Tryz.zeroValue4, agg3 := Tryz.isAgg3, agg4 := Tryz.isAgg4, agg24 := Tryz.isAgg132, size3 := Tryz.sizeOf3, size4 := Tryz.sizeOf4, size24 := Tryz.sizeOf132 }
theorem Tryz.prim194 {ext : PT ExtK} {prim : PT PrimK} {sy : PT (List SE)} {G : GS} : PrimFits Tryz.prog (mkEnvS Tryz.prog ext prim sy) G 194 (.insert 132) :=
  ⟨⟨Tryz.f194, Tryz.func194, by kernel_rfl, by kernel_rfl⟩, fun args H v H' h => insert_ok (ρ := Tryz.r194) (mkEnvS_ty Tryz.prog ext prim sy) Tryz.ins194 h (by kernel_rfl) (by kernel_rfl)⟩
def Tryz.r195 : Ren := ⟨fun | 22 => 195 | 29 => 258 | 30 => 259 | n => n, fun | 24 => 135 | 9 => 195 | n => n, fun n => n⟩
theorem Tryz.ins195 : InsFn Tryz.prog Tryz.r195 Tryz.f195 := by
  refine ⟨Tryz.func195, by kernel_rfl, Tryz.ntmps195, by kernel_rfl, ov_of (P := Tryz.prog) (f := 258) Tryz.func258 (by kernel_rfl) (by kernel_rfl) (by kernel_rfl) (tS := 135) (tR := 4) (e := 195) (by kernel_rfl) Tryz.underlying135 Tryz.sizeOf195, ?_⟩
  intro k i0 z h1 h2 h3 h4
  exact { mixed := by kernel_rfl, t3 := Tryz.underlying3, t4 := Tryz.underlying4, t24 := Tryz.underlying135, i9 := h1, s9 := h2, z9 := h3, zs := h4, zero3 := Tryz.zeroValue3, zero4 := Tryz.zeroValue4, agg3 := Tryz.isAgg3, agg4 := Tryz.isAgg4, agg24 := Tryz.isAgg135, size3 := Tryz.sizeOf3, size4 := Tryz.sizeOf4, size24 := Tryz.sizeOf135 }
theorem Tryz.prim195 {ext : PT ExtK} {prim : PT PrimK} {sy : PT (List SE)} {G : GS} : PrimFits Tryz.prog (mkEnvS Tryz.prog ext prim sy) G 195 (.insert 135) :=
  ⟨⟨Tryz.f195, Tryz.func195, by kernel_rfl, by kernel_rfl⟩, fun args H v H' h => insert_ok (ρ := Tryz.r195) (mkEnvS_ty Tryz.prog ext prim sy) Tryz.ins195 h (by kernel_rfl) (by kernel_rfl)⟩
def Tryz.r196 : Ren := ⟨fun | 22 => 196 | 29 => 260 | 30 => 261 | n => n, fun | 24 => 124 | 9 => 206 | n => n, fun n => n⟩
theorem Tryz.ins196 : InsFn Tryz.prog Tryz.r196 Tryz.f196 := by
  refine ⟨Tryz.func196, by kernel_rfl, Tryz.ntmps196, by kernel_rfl, ov_of (P := Tryz.prog) (f := 260) Tryz.func260 (by kernel_rfl) (by kernel_rfl) (by kernel_rfl) (tS := 124) (tR := 4) (e := 206) (by kernel_rfl) Tryz.underlying124 Tryz.sizeOf206, ?_⟩
  intro k i0 z h1 h2 h3 h4
  exact { mixed := by kernel_rfl, t3 := Tryz.underlying3, t4 := Tryz.underlying4, t24 := Tryz.underlying124, i9 := h1, s9 := h2, z9 := h3, zs := h4, zero3 := Tryz.zeroValue3, zero4 := Tryz.zeroValue4, agg3 := Tryz.isAgg3, agg4 := Tryz.isAgg4, agg24 := Tryz.isAgg124, size3 := Tryz.sizeOf3, size4 := Tryz.sizeOf4, size24 := Tryz.sizeOf124 }
theorem Tryz.prim196 {ext : PT ExtK} {prim : PT PrimK} {sy : PT (List SE)} {G : GS} : PrimFits Tryz.prog (mkEnvS Tryz.prog ext prim sy) G 196 (.insert 124) :=
  ⟨⟨Tryz.f196, Tryz.func196, by kernel_rfl, by kernel_rfl⟩, fun args H v H' h => insert_ok (ρ := Tryz.r196) (mkEnvS_ty Tryz.prog ext prim sy) Tryz.ins196 h (by kernel_rfl) (by kernel_rfl)⟩
def Tryz.r222 : Ren := ⟨fun | 22 => 222 | 29 => 281 | 30 => 282 | n => n, fun | 24 => 227 | 9 => 337 | n => n, fun n => n⟩
theorem Tryz.ins222 : InsFn Tryz.prog Tryz.r222 Tryz.f222 := by
  refine ⟨Tryz.func222, by kernel_rfl, Tryz.ntmps222, by kernel_rfl, ov_of (P := Tryz.prog) (f := 281) Tryz.func281 (by kernel_rfl) (by kernel_rfl) (by kernel_rfl) (tS := 227) (tR := 4) (e := 337) (by kernel_rfl) Tryz.underlying227 Tryz.sizeOf337, ?_⟩
  intro k i0 z h1 h2 h3 h4
  exact { mixed := by kernel_rfl, t3 := Tryz.underlying3, t4 := Tryz.underlying4, t24 := Tryz.underlying227, i9 := h1, s9 := h2, z9 := h3, zs := h4, zero3 := Tryz.zeroValue3, zero4 := Tryz.zeroValue4, agg3 := Tryz.isAgg3, agg4 := Tryz.isAgg4, agg24 := Tryz.isAgg227, size3 := Tryz.sizeOf3, size4 := Tryz.sizeOf4, size24 := Tryz.sizeOf227 }
theorem Tryz.prim222 {ext : PT ExtK} {prim : PT PrimK} {sy : PT (List SE)} {G : GS} : PrimFits Tryz.prog (mkEnvS Tryz.prog ext prim sy) G 222 (.insert 227) :=
  ⟨⟨Tryz.f222, Tryz.func222, by kernel_rfl, by kernel_rfl⟩, fun args H v H' h => insert_ok (ρ := Tryz.r222) (mkEnvS_ty Tryz.prog ext prim sy) Tryz.ins222 h (by kernel_rfl) (by kernel_rfl)⟩
end
noncomputable section
theorem Tryz.sorts (m : Nat) : AnyZ.SortsIn Tryz.prog Tryz.sortedA_ren Fence.wide m :=
  ⟨fun blk off cap ss W hH hblk hsz => callsIn_wide.2 (AnyM.slices_Sort_string Tryz.sortA blk off cap ss W hH hblk hsz), fun p cap W => callsIn_wide.2 (AnyM.slices_Sort_string_none Tryz.sortA p cap W)⟩
theorem Tryz.srt290 : SrtFn Tryz.prog Tryz.keys290_ren Tryz.sortedA_ren :=
  ⟨{ Tryz.keys290 with }, Tryz.sortedA, Tryz.sorts, enters_of Tryz.func278 (by kernel_rfl) rfl, enters_of Tryz.func290 (by kernel_rfl) rfl, by kernel_rfl⟩
theorem Tryz.srt317 : SrtFn Tryz.prog Tryz.keys317_ren Tryz.sortedA_ren :=
  ⟨{ Tryz.keys317 with }, Tryz.sortedA, Tryz.sorts, enters_of Tryz.func278 (by kernel_rfl) rfl, enters_of Tryz.func317 (by kernel_rfl) rfl, by kernel_rfl⟩
theorem Tryz.prim232 {ext : PT ExtK} {prim : PT PrimK} {sy : PT (List SE)} {G : GS} : PrimFits Tryz.prog (mkEnvS Tryz.prog ext prim sy) G 232 (.sortedKeys 9 [290, 317]) :=
  ⟨⟨Tryz.f232, Tryz.func232, by kernel_rfl, by kernel_rfl⟩, fun args H v H' h => sorted_any (ρs := Tryz.sortedA_ren) (l := [Tryz.keys290_ren, Tryz.keys317_ren]) (by
    intro r hr
    simp only [List.mem_cons, List.mem_nil_iff, or_false] at hr
    rcases hr with rfl | rfl
    · exact Tryz.srt290
    · exact Tryz.srt317
    ) h⟩
end
noncomputable section
theorem Tryz.sortsI (m : Nat) : AnyZI.SortsIn Tryz.prog Tryz.sortedI_ren Fence.wide m :=
  ⟨fun blk off cap ss W hH hblk hsz => callsIn_wide.2 (AnyM.slices_Sort_int Tryz.sortI blk off cap ss W hH hblk hsz), fun p cap W => callsIn_wide.2 (AnyM.slices_Sort_int_none Tryz.sortI p cap W)⟩
theorem Tryz.srtI116 : SrtFnI Tryz.prog Tryz.keysI116_ren Tryz.sortedI_ren :=
  ⟨{ Tryz.keysI116 with }, Tryz.sortedI, Tryz.sortsI, enters_of Tryz.func115 (by kernel_rfl) rfl, enters_of Tryz.func116 (by kernel_rfl) rfl, by kernel_rfl⟩
theorem Tryz.prim67 {ext : PT ExtK} {prim : PT PrimK} {sy : PT (List SE)} {G : GS} : PrimFits Tryz.prog (mkEnvS Tryz.prog ext prim sy) G 67 (.sortedInts 3 [116]) :=
  ⟨⟨Tryz.f67, Tryz.func67, by kernel_rfl, by kernel_rfl⟩, fun args H v H' h => sortedI_any (ρs := Tryz.sortedI_ren) (l := [Tryz.keysI116_ren]) (by
    intro r hr
    simp only [List.mem_cons, List.mem_nil_iff, or_false] at hr
    rcases hr with rfl
    · exact Tryz.srtI116
    ) h⟩
def Tryz.primL : List (Nat × PrimK) := [(193, .insert 129), (194, .insert 132), (195, .insert 135), (196, .insert 124), (222, .insert 227), (232, .sortedKeys 9 [290, 317]), (67, .sortedInts 3 [116])]
theorem Tryz.primsOk {ext : PT ExtK} {prim : PT PrimK} {sy : PT (List SE)} {G : GS} : ∀ x ∈ Tryz.primL, PrimFits Tryz.prog (mkEnvS Tryz.prog ext prim sy) G x.1 x.2 := by
  intro x hx
  simp only [Tryz.primL, List.mem_cons, List.mem_nil_iff, or_false] at hx
  rcases hx with rfl | rfl | rfl | rfl | rfl | rfl | rfl
  · exact Tryz.prim193
  · exact Tryz.prim194
  · exact Tryz.prim195
  · exact Tryz.prim196
  · exact Tryz.prim222
  · exact Tryz.prim232
  · exact Tryz.prim67
theorem Tryz.chk0 : (List.range' 0 60).all (chkF Tryz.prog) = true := by kernel_rfl
theorem Tryz.chk1 : (List.range' 60 60).all (chkF Tryz.prog) = true := by kernel_rfl
theorem Tryz.chk2 : (List.range' 120 60).all (chkF Tryz.prog) = true := by kernel_rfl
theorem Tryz.chk3 : (List.range' 180 60).all (chkF Tryz.prog) = true := by kernel_rfl
theorem Tryz.chk4 : (List.range' 240 60).all (chkF Tryz.prog) = true := by kernel_rfl
theorem Tryz.chk5 : (List.range' 300 60).all (chkF Tryz.prog) = true := by kernel_rfl
theorem Tryz.chk6 : (List.range' 360 60).all (chkF Tryz.prog) = true := by kernel_rfl
theorem Tryz.nfuncs : Tryz.prog.funcs.size = 408 := by kernel_rfl
theorem Tryz.nglob : Tryz.prog.globals.size = 8 := by kernel_rfl
theorem Tryz.chk : ∀ f, f < Tryz.prog.funcs.size → chkF Tryz.prog f = true := by
  intro f hf
  rw [Tryz.nfuncs] at hf
  by_cases h0 : f < 60
  · exact all_range Tryz.chk0 f (by omega) (by omega)
  by_cases h1 : f < 120
  · exact all_range Tryz.chk1 f (by omega) (by omega)
  by_cases h2 : f < 180
  · exact all_range Tryz.chk2 f (by omega) (by omega)
  by_cases h3 : f < 240
  · exact all_range Tryz.chk3 f (by omega) (by omega)
  by_cases h4 : f < 300
  · exact all_range Tryz.chk4 f (by omega) (by omega)
  by_cases h5 : f < 360
  · exact all_range Tryz.chk5 f (by omega) (by omega)
  exact all_range Tryz.chk6 f (by omega) (by omega)
def Tryz.Gm (mu : Mu) : GS := initGSm 8 (firstHeap 8 Tryz.gsL) mu
def Tryz.Es (m : List (Nat × PrimK)) (sy : PT (List SE)) : Go.Vsx.Env := mkEnvS Tryz.prog Tryz.ext (ptOf (m ++ Tryz.primL)) sy
theorem Tryz.callOkS (m : List (Nat × PrimK)) (sy : PT (List SE)) (mu : Mu) (hm : ∀ x ∈ m, PrimFits Tryz.prog (Tryz.Es m sy) (Tryz.Gm mu) x.1 x.2) (hy : SymOk (Tryz.Es m sy) mu) (n : Nat) :
    CallOk Tryz.prog (Tryz.Gm mu) (callE (Tryz.Es m sy) (execC (Tryz.Es m sy) n)) :=
  Vsx.callOkS Tryz.nglob (by kernel_rfl) Tryz.extOk Tryz.chk (prim_of rfl fun x hx => (List.mem_append.1 hx).elim (hm x) (Tryz.primsOk x)) hy n
theorem Tryz.callOk (m : List (Nat × PrimK)) (hm : ∀ x ∈ m, PrimFits Tryz.prog (Tryz.Es m .leaf) (Tryz.Gm noMu) x.1 x.2) (n : Nat) :
    CallOk Tryz.prog (Tryz.Gm noMu) (callE (Tryz.Es m .leaf) (execC (Tryz.Es m .leaf) n)) := Tryz.callOkS m .leaf noMu hm (.none rfl) n
end

end Go.Proofs
