/- What the executor is told of this program: its library functions without a body, the functions that are taken by a contract (slices.Insert, slices.Sorted), and that each function passes the static check. No conditions. -/
import Derived.Test.YtjmfbhlanjhnfaaGreatDoorVTab
import Derived.Test.YtjmfbhlanjhnfaaGreatDoorVIns2
import Derived.Test.YtjmfbhlanjhnfaaGreatDoorVSrt
import Derived.Test.YtjmfbhlanjhnfaaGreatDoorVSrtI
import Derived.Test.YtjmfbhlanjhnfaaGreatDoorVSeatLay
import Derived.Test.YtjmfbhlanjhnfaaGreatDoorProg
import Derived.KernelRfl
set_option linter.all false
namespace Go.Proofs
open Go Go.Vsx Go.Shelf Go.RowKit
set_option maxRecDepth 1000000
noncomputable section
def Tryz.extL : List (Nat × ExtK) := [(341, .count), (346, .noEscape), (347, .makeNoZero 5), (350, .cmp), (383, .indexByte), (385, .mapsClone)]
def Tryz.ext : PT ExtK := ptOf Tryz.extL
theorem Tryz.extOk : ∀ f k, Tryz.ext.get f = some k → ExtFits Tryz.prog f k := by
  intro f k h
  have hm := ptOf_mem _ f k h
  simp only [Tryz.extL, List.mem_cons, List.mem_nil_iff, or_false, Prod.mk.injEq] at hm
  rcases hm with ⟨rfl, rfl⟩ | ⟨rfl, rfl⟩ | ⟨rfl, rfl⟩ | ⟨rfl, rfl⟩ | ⟨rfl, rfl⟩ | ⟨rfl, rfl⟩
  · exact ⟨Tryz.f341, Tryz.func341, by kernel_rfl, by kernel_rfl, by kernel_rfl, show Extern.find Tryz.f341 = some Extern.BytealgCount.count from by kernel_rfl⟩
  · exact ⟨Tryz.f346, Tryz.func346, by kernel_rfl, by kernel_rfl, by kernel_rfl, show Extern.find Tryz.f346 = some Extern.AbiNoEscape.same from by kernel_rfl⟩
  · exact ⟨Tryz.f347, Tryz.func347, by kernel_rfl, by kernel_rfl, by kernel_rfl, ⟨#[3], 185, by kernel_rfl, Tryz.underlying185⟩⟩
  · exact ⟨Tryz.f350, Tryz.func350, by kernel_rfl, by kernel_rfl, by kernel_rfl, show Extern.find Tryz.f350 = some Extern.BytealgCompare.compare from by kernel_rfl⟩
  · exact ⟨Tryz.f383, Tryz.func383, by kernel_rfl, by kernel_rfl, by kernel_rfl, show Extern.find Tryz.f383 = some Extern.BytealgIndexByte.indexByte from by kernel_rfl⟩
  · exact ⟨Tryz.f385, Tryz.func385, by kernel_rfl, by kernel_rfl, by kernel_rfl, show Extern.find Tryz.f385 = some Extern.MapsClone.clone from by kernel_rfl⟩
def Tryz.gsL : List Nat := [0, 1]
def Tryz.r143 : Ren := ⟨fun | 22 => 143 | 29 => 224 | 30 => 225 | n => n, fun | 24 => 154 | 9 => 225 | n => n, fun n => n⟩
theorem Tryz.ins143 : InsFn Tryz.prog Tryz.r143 Tryz.f143 := by
  refine ⟨Tryz.func143, by kernel_rfl, Tryz.ntmps143, by kernel_rfl, ov_of (P := Tryz.prog) (f := 224) Tryz.func224 (by kernel_rfl) (by kernel_rfl) (by kernel_rfl) (tS := 154) (tR := 4) (e := 225) (by kernel_rfl) Tryz.underlying154 Tryz.sizeOf225, ?_⟩
  intro k i0 z h1 h2 h3 h4
  exact { mixed := by kernel_rfl, t3 := Tryz.underlying3, t4 := Tryz.underlying4, t24 := Tryz.underlying154, i9 := h1, s9 := h2, z9 := h3, zs := h4, zero3 := Tryz.zeroValue3, zero4 := Tryz.zeroValue4, agg3 := Tryz.isAgg3, agg4 := Tryz.isAgg4, agg24 := Tryz.isAgg154, size3 := Tryz.sizeOf3, size4 := Tryz.sizeOf4, size24 := Tryz.sizeOf154 }
theorem Tryz.prim143 {ext : PT ExtK} {prim : PT PrimK} {sy : PT (List SE)} {G : GS} : PrimFits Tryz.prog (mkEnvS Tryz.prog ext prim sy) G 143 (.insert 154) :=
  ⟨⟨Tryz.f143, Tryz.func143, by kernel_rfl, by kernel_rfl⟩, fun args H v H' h => insert_ok (ρ := Tryz.r143) (mkEnvS_ty Tryz.prog ext prim sy) Tryz.ins143 h (by kernel_rfl) (by kernel_rfl)⟩
def Tryz.r145 : Ren := ⟨fun | 22 => 145 | 29 => 226 | 30 => 227 | n => n, fun | 24 => 157 | 9 => 227 | n => n, fun n => n⟩
theorem Tryz.ins145 : InsFn Tryz.prog Tryz.r145 Tryz.f145 := by
  refine ⟨Tryz.func145, by kernel_rfl, Tryz.ntmps145, by kernel_rfl, ov_of (P := Tryz.prog) (f := 226) Tryz.func226 (by kernel_rfl) (by kernel_rfl) (by kernel_rfl) (tS := 157) (tR := 4) (e := 227) (by kernel_rfl) Tryz.underlying157 Tryz.sizeOf227, ?_⟩
  intro k i0 z h1 h2 h3 h4
  exact { mixed := by kernel_rfl, t3 := Tryz.underlying3, t4 := Tryz.underlying4, t24 := Tryz.underlying157, i9 := h1, s9 := h2, z9 := h3, zs := h4, zero3 := Tryz.zeroValue3, zero4 := Tryz.zeroValue4, agg3 := Tryz.isAgg3, agg4 := Tryz.isAgg4, agg24 := Tryz.isAgg157, size3 := Tryz.sizeOf3, size4 := Tryz.sizeOf4, size24 := Tryz.sizeOf157 }
theorem Tryz.prim145 {ext : PT ExtK} {prim : PT PrimK} {sy : PT (List SE)} {G : GS} : PrimFits Tryz.prog (mkEnvS Tryz.prog ext prim sy) G 145 (.insert 157) :=
  ⟨⟨Tryz.f145, Tryz.func145, by kernel_rfl, by kernel_rfl⟩, fun args H v H' h => insert_ok (ρ := Tryz.r145) (mkEnvS_ty Tryz.prog ext prim sy) Tryz.ins145 h (by kernel_rfl) (by kernel_rfl)⟩
def Tryz.r147 : Ren := ⟨fun | 22 => 147 | 29 => 228 | 30 => 229 | n => n, fun | 24 => 160 | 9 => 229 | n => n, fun n => n⟩
theorem Tryz.ins147 : InsFn Tryz.prog Tryz.r147 Tryz.f147 := by
  refine ⟨Tryz.func147, by kernel_rfl, Tryz.ntmps147, by kernel_rfl, ov_of (P := Tryz.prog) (f := 228) Tryz.func228 (by kernel_rfl) (by kernel_rfl) (by kernel_rfl) (tS := 160) (tR := 4) (e := 229) (by kernel_rfl) Tryz.underlying160 Tryz.sizeOf229, ?_⟩
  intro k i0 z h1 h2 h3 h4
  exact { mixed := by kernel_rfl, t3 := Tryz.underlying3, t4 := Tryz.underlying4, t24 := Tryz.underlying160, i9 := h1, s9 := h2, z9 := h3, zs := h4, zero3 := Tryz.zeroValue3, zero4 := Tryz.zeroValue4, agg3 := Tryz.isAgg3, agg4 := Tryz.isAgg4, agg24 := Tryz.isAgg160, size3 := Tryz.sizeOf3, size4 := Tryz.sizeOf4, size24 := Tryz.sizeOf160 }
theorem Tryz.prim147 {ext : PT ExtK} {prim : PT PrimK} {sy : PT (List SE)} {G : GS} : PrimFits Tryz.prog (mkEnvS Tryz.prog ext prim sy) G 147 (.insert 160) :=
  ⟨⟨Tryz.f147, Tryz.func147, by kernel_rfl, by kernel_rfl⟩, fun args H v H' h => insert_ok (ρ := Tryz.r147) (mkEnvS_ty Tryz.prog ext prim sy) Tryz.ins147 h (by kernel_rfl) (by kernel_rfl)⟩
def Tryz.r148 : Ren := ⟨fun | 22 => 148 | 29 => 230 | 30 => 231 | n => n, fun | 24 => 150 | 9 => 239 | n => n, fun n => n⟩
theorem Tryz.ins148 : InsFn Tryz.prog Tryz.r148 Tryz.f148 := by
  refine ⟨Tryz.func148, by kernel_rfl, Tryz.ntmps148, by kernel_rfl, ov_of (P := Tryz.prog) (f := 230) Tryz.func230 (by kernel_rfl) (by kernel_rfl) (by kernel_rfl) (tS := 150) (tR := 4) (e := 239) (by kernel_rfl) Tryz.underlying150 Tryz.sizeOf239, ?_⟩
  intro k i0 z h1 h2 h3 h4
  exact { mixed := by kernel_rfl, t3 := Tryz.underlying3, t4 := Tryz.underlying4, t24 := Tryz.underlying150, i9 := h1, s9 := h2, z9 := h3, zs := h4, zero3 := Tryz.zeroValue3, zero4 := Tryz.zeroValue4, agg3 := Tryz.isAgg3, agg4 := Tryz.isAgg4, agg24 := Tryz.isAgg150, size3 := Tryz.sizeOf3, size4 := Tryz.sizeOf4, size24 := Tryz.sizeOf150 }
theorem Tryz.prim148 {ext : PT ExtK} {prim : PT PrimK} {sy : PT (List SE)} {G : GS} : PrimFits Tryz.prog (mkEnvS Tryz.prog ext prim sy) G 148 (.insert 150) :=
  ⟨⟨Tryz.f148, Tryz.func148, by kernel_rfl, by kernel_rfl⟩, fun args H v H' h => insert_ok (ρ := Tryz.r148) (mkEnvS_ty Tryz.prog ext prim sy) Tryz.ins148 h (by kernel_rfl) (by kernel_rfl)⟩
def Tryz.r251 : Ren := ⟨fun | 22 => 251 | 29 => 303 | 30 => 304 | n => n, fun | 24 => 263 | 9 => 372 | n => n, fun n => n⟩
theorem Tryz.ins251 : InsFn Tryz.prog Tryz.r251 Tryz.f251 := by
  refine ⟨Tryz.func251, by kernel_rfl, Tryz.ntmps251, by kernel_rfl, ov_of (P := Tryz.prog) (f := 303) Tryz.func303 (by kernel_rfl) (by kernel_rfl) (by kernel_rfl) (tS := 263) (tR := 4) (e := 372) (by kernel_rfl) Tryz.underlying263 Tryz.sizeOf372, ?_⟩
  intro k i0 z h1 h2 h3 h4
  exact { mixed := by kernel_rfl, t3 := Tryz.underlying3, t4 := Tryz.underlying4, t24 := Tryz.underlying263, i9 := h1, s9 := h2, z9 := h3, zs := h4, zero3 := Tryz.zeroValue3, zero4 := Tryz.zeroValue4, agg3 := Tryz.isAgg3, agg4 := Tryz.isAgg4, agg24 := Tryz.isAgg263, size3 := Tryz.sizeOf3, size4 := Tryz.sizeOf4, size24 := Tryz.sizeOf263 }
theorem Tryz.prim251 {ext : PT ExtK} {prim : PT PrimK} {sy : PT (List SE)} {G : GS} : PrimFits Tryz.prog (mkEnvS Tryz.prog ext prim sy) G 251 (.insert 263) :=
  ⟨⟨Tryz.f251, Tryz.func251, by kernel_rfl, by kernel_rfl⟩, fun args H v H' h => insert_ok (ρ := Tryz.r251) (mkEnvS_ty Tryz.prog ext prim sy) Tryz.ins251 h (by kernel_rfl) (by kernel_rfl)⟩
end
noncomputable section
theorem Tryz.sorts (m : Nat) : AnyZ.SortsIn Tryz.prog Tryz.sortedA_ren Fence.wide m :=
  ⟨fun blk off cap ss W hH hblk hsz => callsIn_wide.2 (AnyM.slices_Sort_string Tryz.sortA blk off cap ss W hH hblk hsz), fun p cap W => callsIn_wide.2 (AnyM.slices_Sort_string_none Tryz.sortA p cap W)⟩
theorem Tryz.srt308 : SrtFn Tryz.prog Tryz.keys308_ren Tryz.sortedA_ren :=
  ⟨{ Tryz.keys308 with }, Tryz.sortedA, Tryz.sorts, enters_of Tryz.func300 (by kernel_rfl) rfl, enters_of Tryz.func308 (by kernel_rfl) rfl, by kernel_rfl⟩
theorem Tryz.srt335 : SrtFn Tryz.prog Tryz.keys335_ren Tryz.sortedA_ren :=
  ⟨{ Tryz.keys335 with }, Tryz.sortedA, Tryz.sorts, enters_of Tryz.func300 (by kernel_rfl) rfl, enters_of Tryz.func335 (by kernel_rfl) rfl, by kernel_rfl⟩
theorem Tryz.prim258 {ext : PT ExtK} {prim : PT PrimK} {sy : PT (List SE)} {G : GS} : PrimFits Tryz.prog (mkEnvS Tryz.prog ext prim sy) G 258 (.sortedKeys 9 [308, 335]) :=
  ⟨⟨Tryz.f258, Tryz.func258, by kernel_rfl, by kernel_rfl⟩, fun args H v H' h => sorted_any (ρs := Tryz.sortedA_ren) (l := [Tryz.keys308_ren, Tryz.keys335_ren]) (by
    intro r hr
    simp only [List.mem_cons, List.mem_nil_iff, or_false] at hr
    rcases hr with rfl | rfl
    · exact Tryz.srt308
    · exact Tryz.srt335
    ) h⟩
end
noncomputable section
theorem Tryz.sortsI (m : Nat) : AnyZI.SortsIn Tryz.prog Tryz.sortedI_ren Fence.wide m :=
  ⟨fun blk off cap ss W hH hblk hsz => callsIn_wide.2 (AnyM.slices_Sort_int Tryz.sortI blk off cap ss W hH hblk hsz), fun p cap W => callsIn_wide.2 (AnyM.slices_Sort_int_none Tryz.sortI p cap W)⟩
theorem Tryz.srtI142 : SrtFnI Tryz.prog Tryz.keysI142_ren Tryz.sortedI_ren :=
  ⟨{ Tryz.keysI142 with }, Tryz.sortedI, Tryz.sortsI, enters_of Tryz.func141 (by kernel_rfl) rfl, enters_of Tryz.func142 (by kernel_rfl) rfl, by kernel_rfl⟩
theorem Tryz.prim86 {ext : PT ExtK} {prim : PT PrimK} {sy : PT (List SE)} {G : GS} : PrimFits Tryz.prog (mkEnvS Tryz.prog ext prim sy) G 86 (.sortedInts 3 [142]) :=
  ⟨⟨Tryz.f86, Tryz.func86, by kernel_rfl, by kernel_rfl⟩, fun args H v H' h => sortedI_any (ρs := Tryz.sortedI_ren) (l := [Tryz.keysI142_ren]) (by
    intro r hr
    simp only [List.mem_cons, List.mem_nil_iff, or_false] at hr
    rcases hr with rfl
    · exact Tryz.srtI142
    ) h⟩
def Tryz.primL : List (Nat × PrimK) := [(143, .insert 154), (145, .insert 157), (147, .insert 160), (148, .insert 150), (251, .insert 263), (258, .sortedKeys 9 [308, 335]), (86, .sortedInts 3 [142])]
theorem Tryz.primsOk {ext : PT ExtK} {prim : PT PrimK} {sy : PT (List SE)} {G : GS} : ∀ x ∈ Tryz.primL, PrimFits Tryz.prog (mkEnvS Tryz.prog ext prim sy) G x.1 x.2 := by
  intro x hx
  simp only [Tryz.primL, List.mem_cons, List.mem_nil_iff, or_false] at hx
  rcases hx with rfl | rfl | rfl | rfl | rfl | rfl | rfl
  · exact Tryz.prim143
  · exact Tryz.prim145
  · exact Tryz.prim147
  · exact Tryz.prim148
  · exact Tryz.prim251
  · exact Tryz.prim258
  · exact Tryz.prim86
theorem Tryz.chk0 : (List.range' 0 60).all (chkF Tryz.prog) = true := by kernel_rfl
theorem Tryz.chk1 : (List.range' 60 60).all (chkF Tryz.prog) = true := by kernel_rfl
theorem Tryz.chk2 : (List.range' 120 60).all (chkF Tryz.prog) = true := by kernel_rfl
theorem Tryz.chk3 : (List.range' 180 60).all (chkF Tryz.prog) = true := by kernel_rfl
theorem Tryz.chk4 : (List.range' 240 60).all (chkF Tryz.prog) = true := by kernel_rfl
theorem Tryz.chk5 : (List.range' 300 60).all (chkF Tryz.prog) = true := by kernel_rfl
theorem Tryz.chk6 : (List.range' 360 60).all (chkF Tryz.prog) = true := by kernel_rfl
theorem Tryz.chk7 : (List.range' 420 60).all (chkF Tryz.prog) = true := by kernel_rfl
theorem Tryz.nfuncs : Tryz.prog.funcs.size = 423 := by kernel_rfl
theorem Tryz.nglob : Tryz.prog.globals.size = 8 := by kernel_rfl
theorem Tryz.chk : ∀ f, f < Tryz.prog.funcs.size → chkF Tryz.prog f = true := by
  intro f hf
  rw [Tryz.nfuncs] at hf
  by_cases h0 : f < 60
  · exact all_range Tryz.chk0 f (by omega) (by omega)
  by_cases h1 : f < 120
  · exact all_range Tryz.chk1 f (by omega) (by omega)
  by_cases h2 : f < 180
  · exact all_range Tryz.chk2 f (by omega) (by omega)
  by_cases h3 : f < 240
  · exact all_range Tryz.chk3 f (by omega) (by omega)
  by_cases h4 : f < 300
  · exact all_range Tryz.chk4 f (by omega) (by omega)
  by_cases h5 : f < 360
  · exact all_range Tryz.chk5 f (by omega) (by omega)
  by_cases h6 : f < 420
  · exact all_range Tryz.chk6 f (by omega) (by omega)
  exact all_range Tryz.chk7 f (by omega) (by omega)
def Tryz.gtL : List (Nat × List Value) := [(3, [.int .u64 1, .int .u64 10, .int .u64 100, .int .u64 1000, .int .u64 10000, .int .u64 100000, .int .u64 1000000, .int .u64 10000000, .int .u64 100000000, .int .u64 1000000000, .int .u64 10000000000, .int .u64 100000000000, .int .u64 1000000000000, .int .u64 10000000000000, .int .u64 100000000000000, .int .u64 1000000000000000, .int .u64 10000000000000000, .int .u64 100000000000000000, .int .u64 1000000000000000000, .int .u64 10000000000000000000]), (6, [.int .u8 0, .int .u8 1, .int .u8 28, .int .u8 2, .int .u8 29, .int .u8 14, .int .u8 24, .int .u8 3, .int .u8 30, .int .u8 22, .int .u8 20, .int .u8 15, .int .u8 25, .int .u8 17, .int .u8 4, .int .u8 8, .int .u8 31, .int .u8 27, .int .u8 13, .int .u8 23, .int .u8 21, .int .u8 19, .int .u8 16, .int .u8 7, .int .u8 26, .int .u8 12, .int .u8 18, .int .u8 6, .int .u8 11, .int .u8 5, .int .u8 10, .int .u8 9]), (7, [.int .u8 0, .int .u8 1, .int .u8 56, .int .u8 2, .int .u8 57, .int .u8 49, .int .u8 28, .int .u8 3, .int .u8 61, .int .u8 58, .int .u8 42, .int .u8 50, .int .u8 38, .int .u8 29, .int .u8 17, .int .u8 4, .int .u8 62, .int .u8 47, .int .u8 59, .int .u8 36, .int .u8 45, .int .u8 43, .int .u8 51, .int .u8 22, .int .u8 53, .int .u8 39, .int .u8 33, .int .u8 30, .int .u8 24, .int .u8 18, .int .u8 12, .int .u8 5, .int .u8 63, .int .u8 55, .int .u8 48, .int .u8 27, .int .u8 60, .int .u8 41, .int .u8 37, .int .u8 16, .int .u8 46, .int .u8 35, .int .u8 44, .int .u8 21, .int .u8 52, .int .u8 32, .int .u8 23, .int .u8 11, .int .u8 54, .int .u8 26, .int .u8 40, .int .u8 15, .int .u8 34, .int .u8 20, .int .u8 31, .int .u8 10, .int .u8 25, .int .u8 14, .int .u8 19, .int .u8 9, .int .u8 13, .int .u8 8, .int .u8 7, .int .u8 6])]
def Tryz.H0 : Heap := firstHeapT 8 Tryz.gsL Tryz.gtL
def Tryz.Gm (mu : Mu) : GS := initGSm 8 Tryz.H0 mu
def Tryz.Es (m : List (Nat × PrimK)) (sy : PT (List SE)) : Go.Vsx.Env := mkEnvS Tryz.prog Tryz.ext (ptOf (m ++ Tryz.primL)) sy
theorem Tryz.callOkS (m : List (Nat × PrimK)) (sy : PT (List SE)) (mu : Mu) (hm : ∀ x ∈ m, PrimFits Tryz.prog (Tryz.Es m sy) (Tryz.Gm mu) x.1 x.2) (hy : SymOk (Tryz.Es m sy) mu) (n : Nat) :
    CallOk Tryz.prog (Tryz.Gm mu) (callE (Tryz.Es m sy) (execC (Tryz.Es m sy) n)) :=
  Vsx.callOkS Tryz.nglob (by kernel_rfl) Tryz.extOk Tryz.chk (prim_of rfl fun x hx => (List.mem_append.1 hx).elim (hm x) (Tryz.primsOk x)) hy n
theorem Tryz.callOk (m : List (Nat × PrimK)) (hm : ∀ x ∈ m, PrimFits Tryz.prog (Tryz.Es m .leaf) (Tryz.Gm noMu) x.1 x.2) (n : Nat) :
    CallOk Tryz.prog (Tryz.Gm noMu) (callE (Tryz.Es m .leaf) (execC (Tryz.Es m .leaf) n)) := Tryz.callOkS m .leaf noMu hm (.none rfl) n
theorem Tryz.right (m : List (Nat × PrimK)) (sy : PT (List SE)) (mu : Mu) (W : World) (hm : ∀ x ∈ m, PrimFits Tryz.prog (Tryz.Es m sy) (Tryz.Gm mu) x.1 x.2) (hy : SymOk (Tryz.Es m sy) mu) :
    Right Tryz.prog (Tryz.Es m sy) (lawG 8 Tryz.H0 W mu) :=
  right_of Tryz.nglob (by kernel_rfl) Tryz.extOk Tryz.chk (prim_of rfl fun x hx => (List.mem_append.1 hx).elim (fun h => (hm x h).law) (Tryz.primsOk x)) hy
end

end Go.Proofs
