/- What the executor is told of this program: its library functions without a body, the functions that are taken by a contract (slices.Insert, slices.Sorted), and that each function passes the static check. No conditions. -/
import Derived.Test.YtcappdnmmmhgkaaGreatDoorVTab
import Derived.Test.YtcappdnmmmhgkaaGreatDoorVIns2
import Derived.Test.YtcappdnmmmhgkaaGreatDoorVSrt
import Derived.Test.YtcappdnmmmhgkaaGreatDoorVSrtI
import Derived.Test.YtcappdnmmmhgkaaGreatDoorVSeatLay
import Derived.Test.YtcappdnmmmhgkaaGreatDoorProg
import Derived.KernelRfl
set_option linter.all false
namespace Go.Proofs
open Go Go.Vsx Go.Shelf Go.RowKit
set_option maxRecDepth 1000000
noncomputable section
def Tryz.extL : List (Nat × ExtK) := [(320, .count), (325, .noEscape), (326, .makeNoZero 5), (329, .cmp), (366, .indexByte), (368, .mapsClone)]
def Tryz.ext : PT ExtK := ptOf Tryz.extL
theorem Tryz.extOk : ∀ f k, Tryz.ext.get f = some k → ExtFits Tryz.prog f k := by
  intro f k h
  have hm := ptOf_mem _ f k h
  simp only [Tryz.extL, List.mem_cons, List.mem_nil_iff, or_false, Prod.mk.injEq] at hm
  rcases hm with ⟨rfl, rfl⟩ | ⟨rfl, rfl⟩ | ⟨rfl, rfl⟩ | ⟨rfl, rfl⟩ | ⟨rfl, rfl⟩ | ⟨rfl, rfl⟩
  · exact ⟨Tryz.f320, Tryz.func320, by kernel_rfl, by kernel_rfl, by kernel_rfl, show Extern.find Tryz.f320 = some Extern.BytealgCount.count from by kernel_rfl⟩
  · exact ⟨Tryz.f325, Tryz.func325, by kernel_rfl, by kernel_rfl, by kernel_rfl, show Extern.find Tryz.f325 = some Extern.AbiNoEscape.same from by kernel_rfl⟩
  · exact ⟨Tryz.f326, Tryz.func326, by kernel_rfl, by kernel_rfl, by kernel_rfl, ⟨#[3], 156, by kernel_rfl, Tryz.underlying156⟩⟩
  · exact ⟨Tryz.f329, Tryz.func329, by kernel_rfl, by kernel_rfl, by kernel_rfl, show Extern.find Tryz.f329 = some Extern.BytealgCompare.compare from by kernel_rfl⟩
  · exact ⟨Tryz.f366, Tryz.func366, by kernel_rfl, by kernel_rfl, by kernel_rfl, show Extern.find Tryz.f366 = some Extern.BytealgIndexByte.indexByte from by kernel_rfl⟩
  · exact ⟨Tryz.f368, Tryz.func368, by kernel_rfl, by kernel_rfl, by kernel_rfl, show Extern.find Tryz.f368 = some Extern.MapsClone.clone from by kernel_rfl⟩
def Tryz.gsL : List Nat := [0, 1]
def Tryz.r197 : Ren := ⟨fun | 22 => 197 | 29 => 255 | 30 => 256 | n => n, fun | 24 => 130 | 9 => 196 | n => n, fun n => n⟩
theorem Tryz.ins197 : InsFn Tryz.prog Tryz.r197 Tryz.f197 := by
  refine ⟨Tryz.func197, by kernel_rfl, Tryz.ntmps197, by kernel_rfl, ov_of (P := Tryz.prog) (f := 255) Tryz.func255 (by kernel_rfl) (by kernel_rfl) (by kernel_rfl) (tS := 130) (tR := 4) (e := 196) (by kernel_rfl) Tryz.underlying130 Tryz.sizeOf196, ?_⟩
  intro k i0 z h1 h2 h3 h4
  exact { mixed := by kernel_rfl, t3 := Tryz.underlying3, t4 := Tryz.underlying4, t24 := Tryz.underlying130, i9 := h1, s9 := h2, z9 := h3, zs := h4, zero3 := Tryz.zeroValue3, zero4 := Tryz.zeroValue4, agg3 := Tryz.isAgg3, agg4 := Tryz.isAgg4, agg24 := Tryz.isAgg130, size3 := Tryz.sizeOf3, size4 := Tryz.sizeOf4, size24 := Tryz.sizeOf130 }
theorem Tryz.prim197 {ext : PT ExtK} {prim : PT PrimK} {sy : PT (List SE)} {G : GS} : PrimFits Tryz.prog (mkEnvS Tryz.prog ext prim sy) G 197 (.insert 130) :=
  ⟨⟨Tryz.f197, Tryz.func197, by kernel_rfl, by kernel_rfl⟩, fun args H v H' h => insert_ok (ρ := Tryz.r197) (mkEnvS_ty Tryz.prog ext prim sy) Tryz.ins197 h (by kernel_rfl) (by kernel_rfl)⟩
def Tryz.r199 : Ren := ⟨fun | 22 => 199 | 29 => 257 | 30 => 258 | n => n, fun | 24 => 133 | 9 => 198 | n => n, fun n => n⟩
theorem Tryz.ins199 : InsFn Tryz.prog Tryz.r199 Tryz.f199 := by
  refine ⟨Tryz.func199, by kernel_rfl, Tryz.ntmps199, by kernel_rfl, ov_of (P := Tryz.prog) (f := 257) Tryz.func257 (by kernel_rfl) (by kernel_rfl) (by kernel_rfl) (tS := 133) (tR := 4) (e := 198) (by kernel_rfl) Tryz.underlying133 Tryz.sizeOf198, ?_⟩
  intro k i0 z h1 h2 h3 h4
  exact { mixed := by kernel_rfl, t3 := Tryz.underlying3, t4 := Tryz.underlying4, t24 := Tryz.underlying133, i9 := h1, s9 := h2, z9 := h3, zs := h4, zero3 := Tryz.zeroValue3, zero4 := Tryz.zeroValue4, agg3 := Tryz.isAgg3, agg4 := Tryz.isAgg4, agg24 := Tryz.isAgg133, size3 := Tryz.sizeOf3, size4 := Tryz.sizeOf4, size24 := Tryz.sizeOf133 }
theorem Tryz.prim199 {ext : PT ExtK} {prim : PT PrimK} {sy : PT (List SE)} {G : GS} : PrimFits Tryz.prog (mkEnvS Tryz.prog ext prim sy) G 199 (.insert 133) :=
  ⟨⟨Tryz.f199, Tryz.func199, by kernel_rfl, by kernel_rfl⟩, fun args H v H' h => insert_ok (ρ := Tryz.r199) (mkEnvS_ty Tryz.prog ext prim sy) Tryz.ins199 h (by kernel_rfl) (by kernel_rfl)⟩
def Tryz.r201 : Ren := ⟨fun | 22 => 201 | 29 => 259 | 30 => 260 | n => n, fun | 24 => 136 | 9 => 200 | n => n, fun n => n⟩
theorem Tryz.ins201 : InsFn Tryz.prog Tryz.r201 Tryz.f201 := by
  refine ⟨Tryz.func201, by kernel_rfl, Tryz.ntmps201, by kernel_rfl, ov_of (P := Tryz.prog) (f := 259) Tryz.func259 (by kernel_rfl) (by kernel_rfl) (by kernel_rfl) (tS := 136) (tR := 4) (e := 200) (by kernel_rfl) Tryz.underlying136 Tryz.sizeOf200, ?_⟩
  intro k i0 z h1 h2 h3 h4
  exact { mixed := by kernel_rfl, t3 := Tryz.underlying3, t4 := Tryz.underlying4, t24 := Tryz.underlying136, i9 := h1, s9 := h2, z9 := h3, zs := h4, zero3 := Tryz.zeroValue3, zero4 := Tryz.zeroValue4, agg3 := Tryz.isAgg3, agg4 := Tryz.isAgg4, agg24 := Tryz.isAgg136, size3 := Tryz.sizeOf3, size4 := Tryz.sizeOf4, size24 := Tryz.sizeOf136 }
theorem Tryz.prim201 {ext : PT ExtK} {prim : PT PrimK} {sy : PT (List SE)} {G : GS} : PrimFits Tryz.prog (mkEnvS Tryz.prog ext prim sy) G 201 (.insert 136) :=
  ⟨⟨Tryz.f201, Tryz.func201, by kernel_rfl, by kernel_rfl⟩, fun args H v H' h => insert_ok (ρ := Tryz.r201) (mkEnvS_ty Tryz.prog ext prim sy) Tryz.ins201 h (by kernel_rfl) (by kernel_rfl)⟩
def Tryz.r202 : Ren := ⟨fun | 22 => 202 | 29 => 261 | 30 => 262 | n => n, fun | 24 => 126 | 9 => 211 | n => n, fun n => n⟩
theorem Tryz.ins202 : InsFn Tryz.prog Tryz.r202 Tryz.f202 := by
  refine ⟨Tryz.func202, by kernel_rfl, Tryz.ntmps202, by kernel_rfl, ov_of (P := Tryz.prog) (f := 261) Tryz.func261 (by kernel_rfl) (by kernel_rfl) (by kernel_rfl) (tS := 126) (tR := 4) (e := 211) (by kernel_rfl) Tryz.underlying126 Tryz.sizeOf211, ?_⟩
  intro k i0 z h1 h2 h3 h4
  exact { mixed := by kernel_rfl, t3 := Tryz.underlying3, t4 := Tryz.underlying4, t24 := Tryz.underlying126, i9 := h1, s9 := h2, z9 := h3, zs := h4, zero3 := Tryz.zeroValue3, zero4 := Tryz.zeroValue4, agg3 := Tryz.isAgg3, agg4 := Tryz.isAgg4, agg24 := Tryz.isAgg126, size3 := Tryz.sizeOf3, size4 := Tryz.sizeOf4, size24 := Tryz.sizeOf126 }
theorem Tryz.prim202 {ext : PT ExtK} {prim : PT PrimK} {sy : PT (List SE)} {G : GS} : PrimFits Tryz.prog (mkEnvS Tryz.prog ext prim sy) G 202 (.insert 126) :=
  ⟨⟨Tryz.f202, Tryz.func202, by kernel_rfl, by kernel_rfl⟩, fun args H v H' h => insert_ok (ρ := Tryz.r202) (mkEnvS_ty Tryz.prog ext prim sy) Tryz.ins202 h (by kernel_rfl) (by kernel_rfl)⟩
def Tryz.r226 : Ren := ⟨fun | 22 => 226 | 29 => 282 | 30 => 283 | n => n, fun | 24 => 235 | 9 => 347 | n => n, fun n => n⟩
theorem Tryz.ins226 : InsFn Tryz.prog Tryz.r226 Tryz.f226 := by
  refine ⟨Tryz.func226, by kernel_rfl, Tryz.ntmps226, by kernel_rfl, ov_of (P := Tryz.prog) (f := 282) Tryz.func282 (by kernel_rfl) (by kernel_rfl) (by kernel_rfl) (tS := 235) (tR := 4) (e := 347) (by kernel_rfl) Tryz.underlying235 Tryz.sizeOf347, ?_⟩
  intro k i0 z h1 h2 h3 h4
  exact { mixed := by kernel_rfl, t3 := Tryz.underlying3, t4 := Tryz.underlying4, t24 := Tryz.underlying235, i9 := h1, s9 := h2, z9 := h3, zs := h4, zero3 := Tryz.zeroValue3, zero4 := Tryz.zeroValue4, agg3 := Tryz.isAgg3, agg4 := Tryz.isAgg4, agg24 := Tryz.isAgg235, size3 := Tryz.sizeOf3, size4 := Tryz.sizeOf4, size24 := Tryz.sizeOf235 }
theorem Tryz.prim226 {ext : PT ExtK} {prim : PT PrimK} {sy : PT (List SE)} {G : GS} : PrimFits Tryz.prog (mkEnvS Tryz.prog ext prim sy) G 226 (.insert 235) :=
  ⟨⟨Tryz.f226, Tryz.func226, by kernel_rfl, by kernel_rfl⟩, fun args H v H' h => insert_ok (ρ := Tryz.r226) (mkEnvS_ty Tryz.prog ext prim sy) Tryz.ins226 h (by kernel_rfl) (by kernel_rfl)⟩
end
noncomputable section
theorem Tryz.sorts (m : Nat) : AnyZ.SortsIn Tryz.prog Tryz.sortedA_ren Fence.wide m :=
  ⟨fun blk off cap ss W hH hblk hsz => callsIn_wide.2 (AnyM.slices_Sort_string Tryz.sortA blk off cap ss W hH hblk hsz), fun p cap W => callsIn_wide.2 (AnyM.slices_Sort_string_none Tryz.sortA p cap W)⟩
theorem Tryz.srt287 : SrtFn Tryz.prog Tryz.keys287_ren Tryz.sortedA_ren :=
  ⟨{ Tryz.keys287 with }, Tryz.sortedA, Tryz.sorts, enters_of Tryz.func279 (by kernel_rfl) rfl, enters_of Tryz.func287 (by kernel_rfl) rfl, by kernel_rfl⟩
theorem Tryz.srt314 : SrtFn Tryz.prog Tryz.keys314_ren Tryz.sortedA_ren :=
  ⟨{ Tryz.keys314 with }, Tryz.sortedA, Tryz.sorts, enters_of Tryz.func279 (by kernel_rfl) rfl, enters_of Tryz.func314 (by kernel_rfl) rfl, by kernel_rfl⟩
theorem Tryz.prim233 {ext : PT ExtK} {prim : PT PrimK} {sy : PT (List SE)} {G : GS} : PrimFits Tryz.prog (mkEnvS Tryz.prog ext prim sy) G 233 (.sortedKeys 9 [287, 314]) :=
  ⟨⟨Tryz.f233, Tryz.func233, by kernel_rfl, by kernel_rfl⟩, fun args H v H' h => sorted_any (ρs := Tryz.sortedA_ren) (l := [Tryz.keys287_ren, Tryz.keys314_ren]) (by
    intro r hr
    simp only [List.mem_cons, List.mem_nil_iff, or_false] at hr
    rcases hr with rfl | rfl
    · exact Tryz.srt287
    · exact Tryz.srt314
    ) h⟩
end
noncomputable section
theorem Tryz.sortsI (m : Nat) : AnyZI.SortsIn Tryz.prog Tryz.sortedI_ren Fence.wide m :=
  ⟨fun blk off cap ss W hH hblk hsz => callsIn_wide.2 (AnyM.slices_Sort_int Tryz.sortI blk off cap ss W hH hblk hsz), fun p cap W => callsIn_wide.2 (AnyM.slices_Sort_int_none Tryz.sortI p cap W)⟩
theorem Tryz.srtI125 : SrtFnI Tryz.prog Tryz.keysI125_ren Tryz.sortedI_ren :=
  ⟨{ Tryz.keysI125 with }, Tryz.sortedI, Tryz.sortsI, enters_of Tryz.func124 (by kernel_rfl) rfl, enters_of Tryz.func125 (by kernel_rfl) rfl, by kernel_rfl⟩
theorem Tryz.prim70 {ext : PT ExtK} {prim : PT PrimK} {sy : PT (List SE)} {G : GS} : PrimFits Tryz.prog (mkEnvS Tryz.prog ext prim sy) G 70 (.sortedInts 3 [125]) :=
  ⟨⟨Tryz.f70, Tryz.func70, by kernel_rfl, by kernel_rfl⟩, fun args H v H' h => sortedI_any (ρs := Tryz.sortedI_ren) (l := [Tryz.keysI125_ren]) (by
    intro r hr
    simp only [List.mem_cons, List.mem_nil_iff, or_false] at hr
    rcases hr with rfl
    · exact Tryz.srtI125
    ) h⟩
def Tryz.primL : List (Nat × PrimK) := [(197, .insert 130), (199, .insert 133), (201, .insert 136), (202, .insert 126), (226, .insert 235), (233, .sortedKeys 9 [287, 314]), (70, .sortedInts 3 [125])]
theorem Tryz.primsOk {ext : PT ExtK} {prim : PT PrimK} {sy : PT (List SE)} {G : GS} : ∀ x ∈ Tryz.primL, PrimFits Tryz.prog (mkEnvS Tryz.prog ext prim sy) G x.1 x.2 := by
  intro x hx
  simp only [Tryz.primL, List.mem_cons, List.mem_nil_iff, or_false] at hx
  rcases hx with rfl | rfl | rfl | rfl | rfl | rfl | rfl
  · exact Tryz.prim197
  · exact Tryz.prim199
  · exact Tryz.prim201
  · exact Tryz.prim202
  · exact Tryz.prim226
  · exact Tryz.prim233
  · exact Tryz.prim70
theorem Tryz.chk0 : (List.range' 0 60).all (chkF Tryz.prog) = true := by kernel_rfl
theorem Tryz.chk1 : (List.range' 60 60).all (chkF Tryz.prog) = true := by kernel_rfl
theorem Tryz.chk2 : (List.range' 120 60).all (chkF Tryz.prog) = true := by kernel_rfl
theorem Tryz.chk3 : (List.range' 180 60).all (chkF Tryz.prog) = true := by kernel_rfl
theorem Tryz.chk4 : (List.range' 240 60).all (chkF Tryz.prog) = true := by kernel_rfl
theorem Tryz.chk5 : (List.range' 300 60).all (chkF Tryz.prog) = true := by kernel_rfl
theorem Tryz.chk6 : (List.range' 360 60).all (chkF Tryz.prog) = true := by kernel_rfl
theorem Tryz.nfuncs : Tryz.prog.funcs.size = 406 := by kernel_rfl
theorem Tryz.nglob : Tryz.prog.globals.size = 8 := by kernel_rfl
theorem Tryz.chk : ∀ f, f < Tryz.prog.funcs.size → chkF Tryz.prog f = true := by
  intro f hf
  rw [Tryz.nfuncs] at hf
  by_cases h0 : f < 60
  · exact all_range Tryz.chk0 f (by omega) (by omega)
  by_cases h1 : f < 120
  · exact all_range Tryz.chk1 f (by omega) (by omega)
  by_cases h2 : f < 180
  · exact all_range Tryz.chk2 f (by omega) (by omega)
  by_cases h3 : f < 240
  · exact all_range Tryz.chk3 f (by omega) (by omega)
  by_cases h4 : f < 300
  · exact all_range Tryz.chk4 f (by omega) (by omega)
  by_cases h5 : f < 360
  · exact all_range Tryz.chk5 f (by omega) (by omega)
  exact all_range Tryz.chk6 f (by omega) (by omega)
def Tryz.gtL : List (Nat × List Value) := []
def Tryz.H0 : Heap := firstHeapT 8 Tryz.gsL Tryz.gtL
def Tryz.Gm (mu : Mu) : GS := initGSm 8 Tryz.H0 mu
def Tryz.Es (m : List (Nat × PrimK)) (sy : PT (List SE)) : Go.Vsx.Env := mkEnvS Tryz.prog Tryz.ext (ptOf (m ++ Tryz.primL)) sy
theorem Tryz.callOkS (m : List (Nat × PrimK)) (sy : PT (List SE)) (mu : Mu) (hm : ∀ x ∈ m, PrimFits Tryz.prog (Tryz.Es m sy) (Tryz.Gm mu) x.1 x.2) (hy : SymOk (Tryz.Es m sy) mu) (n : Nat) :
    CallOk Tryz.prog (Tryz.Gm mu) (callE (Tryz.Es m sy) (execC (Tryz.Es m sy) n)) :=
  Vsx.callOkS Tryz.nglob (by kernel_rfl) Tryz.extOk Tryz.chk (prim_of rfl fun x hx => (List.mem_append.1 hx).elim (hm x) (Tryz.primsOk x)) hy n
theorem Tryz.callOk (m : List (Nat × PrimK)) (hm : ∀ x ∈ m, PrimFits Tryz.prog (Tryz.Es m .leaf) (Tryz.Gm noMu) x.1 x.2) (n : Nat) :
    CallOk Tryz.prog (Tryz.Gm noMu) (callE (Tryz.Es m .leaf) (execC (Tryz.Es m .leaf) n)) := Tryz.callOkS m .leaf noMu hm (.none rfl) n
theorem Tryz.right (m : List (Nat × PrimK)) (sy : PT (List SE)) (mu : Mu) (W : World) (hm : ∀ x ∈ m, PrimFits Tryz.prog (Tryz.Es m sy) (Tryz.Gm mu) x.1 x.2) (hy : SymOk (Tryz.Es m sy) mu) :
    Right Tryz.prog (Tryz.Es m sy) (lawG 8 Tryz.H0 W mu) :=
  right_of Tryz.nglob (by kernel_rfl) Tryz.extOk Tryz.chk (prim_of rfl fun x hx => (List.mem_append.1 hx).elim (fun h => (hm x h).law) (Tryz.primsOk x)) hy
end

end Go.Proofs
