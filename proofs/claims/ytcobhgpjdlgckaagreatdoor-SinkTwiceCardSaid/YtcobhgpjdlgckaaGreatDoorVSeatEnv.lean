/- What the executor is told of this program: its library functions without a body, the functions that are taken by a contract (slices.Insert, slices.Sorted), and that each function passes the static check. No conditions. -/
import Derived.Test.YtcobhgpjdlgckaaGreatDoorVLeaf
import Derived.Test.YtcobhgpjdlgckaaGreatDoorVIns2
import Derived.Test.YtcobhgpjdlgckaaGreatDoorVSrt
import Derived.Test.YtcobhgpjdlgckaaGreatDoorVSrtI
import Derived.Test.YtcobhgpjdlgckaaGreatDoorVSeatLay
import Derived.Test.YtcobhgpjdlgckaaGreatDoorProg
import Derived.KernelRfl
set_option linter.all false
namespace Go.Proofs
open Go Go.Vsx Go.Shelf Go.RowKit
set_option maxRecDepth 1000000
noncomputable section
def Tryz.extL : List (Nat × ExtK) := [(338, .count), (343, .noEscape), (344, .makeNoZero 5), (347, .cmp), (383, .indexByte), (385, .mapsClone)]
def Tryz.ext : PT ExtK := ptOf Tryz.extL
theorem Tryz.extOk : ∀ f k, Tryz.ext.get f = some k → ExtFits Tryz.prog f k := by
  intro f k h
  have hm := ptOf_mem _ f k h
  simp only [Tryz.extL, List.mem_cons, List.mem_nil_iff, or_false, Prod.mk.injEq] at hm
  rcases hm with ⟨rfl, rfl⟩ | ⟨rfl, rfl⟩ | ⟨rfl, rfl⟩ | ⟨rfl, rfl⟩ | ⟨rfl, rfl⟩ | ⟨rfl, rfl⟩
  · exact ⟨Tryz.f338, Tryz.func338, by kernel_rfl, by kernel_rfl, by kernel_rfl, show Extern.find Tryz.f338 = some Extern.BytealgCount.count from by kernel_rfl⟩
  · exact ⟨Tryz.f343, Tryz.func343, by kernel_rfl, by kernel_rfl, by kernel_rfl, show Extern.find Tryz.f343 = some Extern.AbiNoEscape.same from by kernel_rfl⟩
  · exact ⟨Tryz.f344, Tryz.func344, by kernel_rfl, by kernel_rfl, by kernel_rfl, ⟨#[3], 173, by kernel_rfl, Tryz.underlying173⟩⟩
  · exact ⟨Tryz.f347, Tryz.func347, by kernel_rfl, by kernel_rfl, by kernel_rfl, show Extern.find Tryz.f347 = some Extern.BytealgCompare.compare from by kernel_rfl⟩
  · exact ⟨Tryz.f383, Tryz.func383, by kernel_rfl, by kernel_rfl, by kernel_rfl, show Extern.find Tryz.f383 = some Extern.BytealgIndexByte.indexByte from by kernel_rfl⟩
  · exact ⟨Tryz.f385, Tryz.func385, by kernel_rfl, by kernel_rfl, by kernel_rfl, show Extern.find Tryz.f385 = some Extern.MapsClone.clone from by kernel_rfl⟩
def Tryz.gsL : List Nat := [0, 1]
def Tryz.r209 : Ren := ⟨fun | 22 => 209 | 29 => 277 | 30 => 278 | n => n, fun | 24 => 152 | 9 => 214 | n => n, fun n => n⟩
theorem Tryz.ins209 : InsFn Tryz.prog Tryz.r209 Tryz.f209 := by
  refine ⟨Tryz.func209, by kernel_rfl, Tryz.ntmps209, by kernel_rfl, ov_of (P := Tryz.prog) (f := 277) Tryz.func277 (by kernel_rfl) (by kernel_rfl) (by kernel_rfl) (tS := 152) (tR := 4) (e := 214) (by kernel_rfl) Tryz.underlying152 Tryz.sizeOf214, ?_⟩
  intro k i0 z h1 h2 h3 h4
  exact { mixed := by kernel_rfl, t3 := Tryz.underlying3, t4 := Tryz.underlying4, t24 := Tryz.underlying152, i9 := h1, s9 := h2, z9 := h3, zs := h4, zero3 := Tryz.zeroValue3, zero4 := Tryz.zeroValue4, agg3 := Tryz.isAgg3, agg4 := Tryz.isAgg4, agg24 := Tryz.isAgg152, size3 := Tryz.sizeOf3, size4 := Tryz.sizeOf4, size24 := Tryz.sizeOf152 }
theorem Tryz.prim209 {ext : PT ExtK} {prim : PT PrimK} {sy : PT (List SE)} {G : GS} : PrimFits Tryz.prog (mkEnvS Tryz.prog ext prim sy) G 209 (.insert 152) :=
  ⟨⟨Tryz.f209, Tryz.func209, by kernel_rfl, by kernel_rfl⟩, fun args H v H' h => insert_ok (ρ := Tryz.r209) (mkEnvS_ty Tryz.prog ext prim sy) Tryz.ins209 h (by kernel_rfl) (by kernel_rfl)⟩
def Tryz.r210 : Ren := ⟨fun | 22 => 210 | 29 => 279 | 30 => 280 | n => n, fun | 24 => 155 | 9 => 216 | n => n, fun n => n⟩
theorem Tryz.ins210 : InsFn Tryz.prog Tryz.r210 Tryz.f210 := by
  refine ⟨Tryz.func210, by kernel_rfl, Tryz.ntmps210, by kernel_rfl, ov_of (P := Tryz.prog) (f := 279) Tryz.func279 (by kernel_rfl) (by kernel_rfl) (by kernel_rfl) (tS := 155) (tR := 4) (e := 216) (by kernel_rfl) Tryz.underlying155 Tryz.sizeOf216, ?_⟩
  intro k i0 z h1 h2 h3 h4
  exact { mixed := by kernel_rfl, t3 := Tryz.underlying3, t4 := Tryz.underlying4, t24 := Tryz.underlying155, i9 := h1, s9 := h2, z9 := h3, zs := h4, zero3 := Tryz.zeroValue3, zero4 := Tryz.zeroValue4, agg3 := Tryz.isAgg3, agg4 := Tryz.isAgg4, agg24 := Tryz.isAgg155, size3 := Tryz.sizeOf3, size4 := Tryz.sizeOf4, size24 := Tryz.sizeOf155 }
theorem Tryz.prim210 {ext : PT ExtK} {prim : PT PrimK} {sy : PT (List SE)} {G : GS} : PrimFits Tryz.prog (mkEnvS Tryz.prog ext prim sy) G 210 (.insert 155) :=
  ⟨⟨Tryz.f210, Tryz.func210, by kernel_rfl, by kernel_rfl⟩, fun args H v H' h => insert_ok (ρ := Tryz.r210) (mkEnvS_ty Tryz.prog ext prim sy) Tryz.ins210 h (by kernel_rfl) (by kernel_rfl)⟩
def Tryz.r211 : Ren := ⟨fun | 22 => 211 | 29 => 281 | 30 => 282 | n => n, fun | 24 => 158 | 9 => 218 | n => n, fun n => n⟩
theorem Tryz.ins211 : InsFn Tryz.prog Tryz.r211 Tryz.f211 := by
  refine ⟨Tryz.func211, by kernel_rfl, Tryz.ntmps211, by kernel_rfl, ov_of (P := Tryz.prog) (f := 281) Tryz.func281 (by kernel_rfl) (by kernel_rfl) (by kernel_rfl) (tS := 158) (tR := 4) (e := 218) (by kernel_rfl) Tryz.underlying158 Tryz.sizeOf218, ?_⟩
  intro k i0 z h1 h2 h3 h4
  exact { mixed := by kernel_rfl, t3 := Tryz.underlying3, t4 := Tryz.underlying4, t24 := Tryz.underlying158, i9 := h1, s9 := h2, z9 := h3, zs := h4, zero3 := Tryz.zeroValue3, zero4 := Tryz.zeroValue4, agg3 := Tryz.isAgg3, agg4 := Tryz.isAgg4, agg24 := Tryz.isAgg158, size3 := Tryz.sizeOf3, size4 := Tryz.sizeOf4, size24 := Tryz.sizeOf158 }
theorem Tryz.prim211 {ext : PT ExtK} {prim : PT PrimK} {sy : PT (List SE)} {G : GS} : PrimFits Tryz.prog (mkEnvS Tryz.prog ext prim sy) G 211 (.insert 158) :=
  ⟨⟨Tryz.f211, Tryz.func211, by kernel_rfl, by kernel_rfl⟩, fun args H v H' h => insert_ok (ρ := Tryz.r211) (mkEnvS_ty Tryz.prog ext prim sy) Tryz.ins211 h (by kernel_rfl) (by kernel_rfl)⟩
def Tryz.r212 : Ren := ⟨fun | 22 => 212 | 29 => 283 | 30 => 284 | n => n, fun | 24 => 147 | 9 => 229 | n => n, fun n => n⟩
theorem Tryz.ins212 : InsFn Tryz.prog Tryz.r212 Tryz.f212 := by
  refine ⟨Tryz.func212, by kernel_rfl, Tryz.ntmps212, by kernel_rfl, ov_of (P := Tryz.prog) (f := 283) Tryz.func283 (by kernel_rfl) (by kernel_rfl) (by kernel_rfl) (tS := 147) (tR := 4) (e := 229) (by kernel_rfl) Tryz.underlying147 Tryz.sizeOf229, ?_⟩
  intro k i0 z h1 h2 h3 h4
  exact { mixed := by kernel_rfl, t3 := Tryz.underlying3, t4 := Tryz.underlying4, t24 := Tryz.underlying147, i9 := h1, s9 := h2, z9 := h3, zs := h4, zero3 := Tryz.zeroValue3, zero4 := Tryz.zeroValue4, agg3 := Tryz.isAgg3, agg4 := Tryz.isAgg4, agg24 := Tryz.isAgg147, size3 := Tryz.sizeOf3, size4 := Tryz.sizeOf4, size24 := Tryz.sizeOf147 }
theorem Tryz.prim212 {ext : PT ExtK} {prim : PT PrimK} {sy : PT (List SE)} {G : GS} : PrimFits Tryz.prog (mkEnvS Tryz.prog ext prim sy) G 212 (.insert 147) :=
  ⟨⟨Tryz.f212, Tryz.func212, by kernel_rfl, by kernel_rfl⟩, fun args H v H' h => insert_ok (ρ := Tryz.r212) (mkEnvS_ty Tryz.prog ext prim sy) Tryz.ins212 h (by kernel_rfl) (by kernel_rfl)⟩
def Tryz.r245 : Ren := ⟨fun | 22 => 245 | 29 => 298 | 30 => 299 | n => n, fun | 24 => 250 | 9 => 363 | n => n, fun n => n⟩
theorem Tryz.ins245 : InsFn Tryz.prog Tryz.r245 Tryz.f245 := by
  refine ⟨Tryz.func245, by kernel_rfl, Tryz.ntmps245, by kernel_rfl, ov_of (P := Tryz.prog) (f := 298) Tryz.func298 (by kernel_rfl) (by kernel_rfl) (by kernel_rfl) (tS := 250) (tR := 4) (e := 363) (by kernel_rfl) Tryz.underlying250 Tryz.sizeOf363, ?_⟩
  intro k i0 z h1 h2 h3 h4
  exact { mixed := by kernel_rfl, t3 := Tryz.underlying3, t4 := Tryz.underlying4, t24 := Tryz.underlying250, i9 := h1, s9 := h2, z9 := h3, zs := h4, zero3 := Tryz.zeroValue3, zero4 := Tryz.zeroValue4, agg3 := Tryz.isAgg3, agg4 := Tryz.isAgg4, agg24 := Tryz.isAgg250, size3 := Tryz.sizeOf3, size4 := Tryz.sizeOf4, size24 := Tryz.sizeOf250 }
theorem Tryz.prim245 {ext : PT ExtK} {prim : PT PrimK} {sy : PT (List SE)} {G : GS} : PrimFits Tryz.prog (mkEnvS Tryz.prog ext prim sy) G 245 (.insert 250) :=
  ⟨⟨Tryz.f245, Tryz.func245, by kernel_rfl, by kernel_rfl⟩, fun args H v H' h => insert_ok (ρ := Tryz.r245) (mkEnvS_ty Tryz.prog ext prim sy) Tryz.ins245 h (by kernel_rfl) (by kernel_rfl)⟩
end
noncomputable section
theorem Tryz.sorts (m : Nat) : AnyZ.SortsIn Tryz.prog Tryz.sortedA_ren Fence.wide m :=
  ⟨fun blk off cap ss W hH hblk hsz => callsIn_wide.2 (AnyM.slices_Sort_string Tryz.sortA blk off cap ss W hH hblk hsz), fun p cap W => callsIn_wide.2 (AnyM.slices_Sort_string_none Tryz.sortA p cap W)⟩
theorem Tryz.srt307 : SrtFn Tryz.prog Tryz.keys307_ren Tryz.sortedA_ren :=
  ⟨{ Tryz.keys307 with }, Tryz.sortedA, Tryz.sorts, enters_of Tryz.func295 (by kernel_rfl) rfl, enters_of Tryz.func307 (by kernel_rfl) rfl, by kernel_rfl⟩
theorem Tryz.srt332 : SrtFn Tryz.prog Tryz.keys332_ren Tryz.sortedA_ren :=
  ⟨{ Tryz.keys332 with }, Tryz.sortedA, Tryz.sorts, enters_of Tryz.func295 (by kernel_rfl) rfl, enters_of Tryz.func332 (by kernel_rfl) rfl, by kernel_rfl⟩
theorem Tryz.prim255 {ext : PT ExtK} {prim : PT PrimK} {sy : PT (List SE)} {G : GS} : PrimFits Tryz.prog (mkEnvS Tryz.prog ext prim sy) G 255 (.sortedKeys 9 [307, 332]) :=
  ⟨⟨Tryz.f255, Tryz.func255, by kernel_rfl, by kernel_rfl⟩, fun args H v H' h => sorted_any (ρs := Tryz.sortedA_ren) (l := [Tryz.keys307_ren, Tryz.keys332_ren]) (by
    intro r hr
    simp only [List.mem_cons, List.mem_nil_iff, or_false] at hr
    rcases hr with rfl | rfl
    · exact Tryz.srt307
    · exact Tryz.srt332
    ) h⟩
end
noncomputable section
theorem Tryz.sortsI (m : Nat) : AnyZI.SortsIn Tryz.prog Tryz.sortedI_ren Fence.wide m :=
  ⟨fun blk off cap ss W hH hblk hsz => callsIn_wide.2 (AnyM.slices_Sort_int Tryz.sortI blk off cap ss W hH hblk hsz), fun p cap W => callsIn_wide.2 (AnyM.slices_Sort_int_none Tryz.sortI p cap W)⟩
theorem Tryz.srtI85 : SrtFnI Tryz.prog Tryz.keysI85_ren Tryz.sortedI_ren :=
  ⟨{ Tryz.keysI85 with }, Tryz.sortedI, Tryz.sortsI, enters_of Tryz.func84 (by kernel_rfl) rfl, enters_of Tryz.func85 (by kernel_rfl) rfl, by kernel_rfl⟩
theorem Tryz.prim57 {ext : PT ExtK} {prim : PT PrimK} {sy : PT (List SE)} {G : GS} : PrimFits Tryz.prog (mkEnvS Tryz.prog ext prim sy) G 57 (.sortedInts 3 [85]) :=
  ⟨⟨Tryz.f57, Tryz.func57, by kernel_rfl, by kernel_rfl⟩, fun args H v H' h => sortedI_any (ρs := Tryz.sortedI_ren) (l := [Tryz.keysI85_ren]) (by
    intro r hr
    simp only [List.mem_cons, List.mem_nil_iff, or_false] at hr
    rcases hr with rfl
    · exact Tryz.srtI85
    ) h⟩
def Tryz.primL : List (Nat × PrimK) := [(209, .insert 152), (210, .insert 155), (211, .insert 158), (212, .insert 147), (245, .insert 250), (255, .sortedKeys 9 [307, 332]), (57, .sortedInts 3 [85])]
theorem Tryz.primsOk {ext : PT ExtK} {prim : PT PrimK} {sy : PT (List SE)} {G : GS} : ∀ x ∈ Tryz.primL, PrimFits Tryz.prog (mkEnvS Tryz.prog ext prim sy) G x.1 x.2 := by
  intro x hx
  simp only [Tryz.primL, List.mem_cons, List.mem_nil_iff, or_false] at hx
  rcases hx with rfl | rfl | rfl | rfl | rfl | rfl | rfl
  · exact Tryz.prim209
  · exact Tryz.prim210
  · exact Tryz.prim211
  · exact Tryz.prim212
  · exact Tryz.prim245
  · exact Tryz.prim255
  · exact Tryz.prim57
theorem Tryz.chk0 : (List.range' 0 60).all (chkF Tryz.prog) = true := by kernel_rfl
theorem Tryz.chk1 : (List.range' 60 60).all (chkF Tryz.prog) = true := by kernel_rfl
theorem Tryz.chk2 : (List.range' 120 60).all (chkF Tryz.prog) = true := by kernel_rfl
theorem Tryz.chk3 : (List.range' 180 60).all (chkF Tryz.prog) = true := by kernel_rfl
theorem Tryz.chk4 : (List.range' 240 60).all (chkF Tryz.prog) = true := by kernel_rfl
theorem Tryz.chk5 : (List.range' 300 60).all (chkF Tryz.prog) = true := by kernel_rfl
theorem Tryz.chk6 : (List.range' 360 60).all (chkF Tryz.prog) = true := by kernel_rfl
theorem Tryz.chk7 : (List.range' 420 60).all (chkF Tryz.prog) = true := by kernel_rfl
theorem Tryz.nfuncs : Tryz.prog.funcs.size = 423 := by kernel_rfl
theorem Tryz.nglob : Tryz.prog.globals.size = 8 := by kernel_rfl
theorem Tryz.chk : ∀ f, f < Tryz.prog.funcs.size → chkF Tryz.prog f = true := by
  intro f hf
  rw [Tryz.nfuncs] at hf
  by_cases h0 : f < 60
  · exact all_range Tryz.chk0 f (by omega) (by omega)
  by_cases h1 : f < 120
  · exact all_range Tryz.chk1 f (by omega) (by omega)
  by_cases h2 : f < 180
  · exact all_range Tryz.chk2 f (by omega) (by omega)
  by_cases h3 : f < 240
  · exact all_range Tryz.chk3 f (by omega) (by omega)
  by_cases h4 : f < 300
  · exact all_range Tryz.chk4 f (by omega) (by omega)
  by_cases h5 : f < 360
  · exact all_range Tryz.chk5 f (by omega) (by omega)
  by_cases h6 : f < 420
  · exact all_range Tryz.chk6 f (by omega) (by omega)
  exact all_range Tryz.chk7 f (by omega) (by omega)
def Tryz.Gm (mu : Mu) : GS := initGSm 8 (firstHeap 8 Tryz.gsL) mu
def Tryz.Es (m : List (Nat × PrimK)) (sy : PT (List SE)) : Go.Vsx.Env := mkEnvS Tryz.prog Tryz.ext (ptOf (m ++ Tryz.primL)) sy
theorem Tryz.callOkS (m : List (Nat × PrimK)) (sy : PT (List SE)) (mu : Mu) (hm : ∀ x ∈ m, PrimFits Tryz.prog (Tryz.Es m sy) (Tryz.Gm mu) x.1 x.2) (hy : SymOk (Tryz.Es m sy) mu) (n : Nat) :
    CallOk Tryz.prog (Tryz.Gm mu) (callE (Tryz.Es m sy) (execC (Tryz.Es m sy) n)) :=
  Vsx.callOkS Tryz.nglob (by kernel_rfl) Tryz.extOk Tryz.chk (prim_of rfl fun x hx => (List.mem_append.1 hx).elim (hm x) (Tryz.primsOk x)) hy n
theorem Tryz.callOk (m : List (Nat × PrimK)) (hm : ∀ x ∈ m, PrimFits Tryz.prog (Tryz.Es m .leaf) (Tryz.Gm noMu) x.1 x.2) (n : Nat) :
    CallOk Tryz.prog (Tryz.Gm noMu) (callE (Tryz.Es m .leaf) (execC (Tryz.Es m .leaf) n)) := Tryz.callOkS m .leaf noMu hm (.none rfl) n
theorem Tryz.right (m : List (Nat × PrimK)) (sy : PT (List SE)) (mu : Mu) (W : World) (hm : ∀ x ∈ m, PrimFits Tryz.prog (Tryz.Es m sy) (Tryz.Gm mu) x.1 x.2) (hy : SymOk (Tryz.Es m sy) mu) :
    Right Tryz.prog (Tryz.Es m sy) (lawG 8 (firstHeap 8 Tryz.gsL) W mu) :=
  right_of Tryz.nglob (by kernel_rfl) Tryz.extOk Tryz.chk (prim_of rfl fun x hx => (List.mem_append.1 hx).elim (fun h => (hm x h).law) (Tryz.primsOk x)) hy
end

end Go.Proofs
