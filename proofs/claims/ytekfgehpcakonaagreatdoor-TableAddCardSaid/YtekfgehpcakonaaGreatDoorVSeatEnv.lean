/- What the executor is told of this program: its library functions without a body, the functions that are taken by a contract (slices.Insert, slices.Sorted), and that each function passes the static check. No conditions. -/
import Derived.Test.YtekfgehpcakonaaGreatDoorVLeaf
import Derived.Test.YtekfgehpcakonaaGreatDoorVIns2
import Derived.Test.YtekfgehpcakonaaGreatDoorVSrt
import Derived.Test.YtekfgehpcakonaaGreatDoorVSrtI
import Derived.Test.YtekfgehpcakonaaGreatDoorVSeatLay
import Derived.Test.YtekfgehpcakonaaGreatDoorProg
import Derived.KernelRfl
set_option linter.all false
namespace Go.Proofs
open Go Go.Vsx Go.Shelf Go.RowKit
set_option maxRecDepth 1000000
noncomputable section
def Tryz.extL : List (Nat × ExtK) := [(331, .count), (336, .noEscape), (337, .makeNoZero 5), (340, .cmp), (373, .indexByte), (375, .mapsClone)]
def Tryz.ext : PT ExtK := ptOf Tryz.extL
theorem Tryz.extOk : ∀ f k, Tryz.ext.get f = some k → ExtFits Tryz.prog f k := by
  intro f k h
  have hm := ptOf_mem _ f k h
  simp only [Tryz.extL, List.mem_cons, List.mem_nil_iff, or_false, Prod.mk.injEq] at hm
  rcases hm with ⟨rfl, rfl⟩ | ⟨rfl, rfl⟩ | ⟨rfl, rfl⟩ | ⟨rfl, rfl⟩ | ⟨rfl, rfl⟩ | ⟨rfl, rfl⟩
  · exact ⟨Tryz.f331, Tryz.func331, by kernel_rfl, by kernel_rfl, by kernel_rfl, show Extern.find Tryz.f331 = some Extern.BytealgCount.count from by kernel_rfl⟩
  · exact ⟨Tryz.f336, Tryz.func336, by kernel_rfl, by kernel_rfl, by kernel_rfl, show Extern.find Tryz.f336 = some Extern.AbiNoEscape.same from by kernel_rfl⟩
  · exact ⟨Tryz.f337, Tryz.func337, by kernel_rfl, by kernel_rfl, by kernel_rfl, ⟨#[3], 171, by kernel_rfl, Tryz.underlying171⟩⟩
  · exact ⟨Tryz.f340, Tryz.func340, by kernel_rfl, by kernel_rfl, by kernel_rfl, show Extern.find Tryz.f340 = some Extern.BytealgCompare.compare from by kernel_rfl⟩
  · exact ⟨Tryz.f373, Tryz.func373, by kernel_rfl, by kernel_rfl, by kernel_rfl, show Extern.find Tryz.f373 = some Extern.BytealgIndexByte.indexByte from by kernel_rfl⟩
  · exact ⟨Tryz.f375, Tryz.func375, by kernel_rfl, by kernel_rfl, by kernel_rfl, show Extern.find Tryz.f375 = some Extern.MapsClone.clone from by kernel_rfl⟩
def Tryz.gsL : List Nat := [0, 1]
def Tryz.r130 : Ren := ⟨fun | 22 => 130 | 29 => 212 | 30 => 213 | n => n, fun | 24 => 142 | 9 => 211 | n => n, fun n => n⟩
theorem Tryz.ins130 : InsFn Tryz.prog Tryz.r130 Tryz.f130 := by
  refine ⟨Tryz.func130, by kernel_rfl, Tryz.ntmps130, by kernel_rfl, ov_of (P := Tryz.prog) (f := 212) Tryz.func212 (by kernel_rfl) (by kernel_rfl) (by kernel_rfl) (tS := 142) (tR := 4) (e := 211) (by kernel_rfl) Tryz.underlying142 Tryz.sizeOf211, ?_⟩
  intro k i0 z h1 h2 h3 h4
  exact { mixed := by kernel_rfl, t3 := Tryz.underlying3, t4 := Tryz.underlying4, t24 := Tryz.underlying142, i9 := h1, s9 := h2, z9 := h3, zs := h4, zero3 := Tryz.zeroValue3, zero4 := Tryz.zeroValue4, agg3 := Tryz.isAgg3, agg4 := Tryz.isAgg4, agg24 := Tryz.isAgg142, size3 := Tryz.sizeOf3, size4 := Tryz.sizeOf4, size24 := Tryz.sizeOf142 }
theorem Tryz.prim130 {ext : PT ExtK} {prim : PT PrimK} {sy : PT (List SE)} {G : GS} : PrimFits Tryz.prog (mkEnvS Tryz.prog ext prim sy) G 130 (.insert 142) :=
  ⟨⟨Tryz.f130, Tryz.func130, by kernel_rfl, by kernel_rfl⟩, fun args H v H' h => insert_ok (ρ := Tryz.r130) (mkEnvS_ty Tryz.prog ext prim sy) Tryz.ins130 h (by kernel_rfl) (by kernel_rfl)⟩
def Tryz.r132 : Ren := ⟨fun | 22 => 132 | 29 => 214 | 30 => 215 | n => n, fun | 24 => 145 | 9 => 213 | n => n, fun n => n⟩
theorem Tryz.ins132 : InsFn Tryz.prog Tryz.r132 Tryz.f132 := by
  refine ⟨Tryz.func132, by kernel_rfl, Tryz.ntmps132, by kernel_rfl, ov_of (P := Tryz.prog) (f := 214) Tryz.func214 (by kernel_rfl) (by kernel_rfl) (by kernel_rfl) (tS := 145) (tR := 4) (e := 213) (by kernel_rfl) Tryz.underlying145 Tryz.sizeOf213, ?_⟩
  intro k i0 z h1 h2 h3 h4
  exact { mixed := by kernel_rfl, t3 := Tryz.underlying3, t4 := Tryz.underlying4, t24 := Tryz.underlying145, i9 := h1, s9 := h2, z9 := h3, zs := h4, zero3 := Tryz.zeroValue3, zero4 := Tryz.zeroValue4, agg3 := Tryz.isAgg3, agg4 := Tryz.isAgg4, agg24 := Tryz.isAgg145, size3 := Tryz.sizeOf3, size4 := Tryz.sizeOf4, size24 := Tryz.sizeOf145 }
theorem Tryz.prim132 {ext : PT ExtK} {prim : PT PrimK} {sy : PT (List SE)} {G : GS} : PrimFits Tryz.prog (mkEnvS Tryz.prog ext prim sy) G 132 (.insert 145) :=
  ⟨⟨Tryz.f132, Tryz.func132, by kernel_rfl, by kernel_rfl⟩, fun args H v H' h => insert_ok (ρ := Tryz.r132) (mkEnvS_ty Tryz.prog ext prim sy) Tryz.ins132 h (by kernel_rfl) (by kernel_rfl)⟩
def Tryz.r134 : Ren := ⟨fun | 22 => 134 | 29 => 216 | 30 => 217 | n => n, fun | 24 => 148 | 9 => 215 | n => n, fun n => n⟩
theorem Tryz.ins134 : InsFn Tryz.prog Tryz.r134 Tryz.f134 := by
  refine ⟨Tryz.func134, by kernel_rfl, Tryz.ntmps134, by kernel_rfl, ov_of (P := Tryz.prog) (f := 216) Tryz.func216 (by kernel_rfl) (by kernel_rfl) (by kernel_rfl) (tS := 148) (tR := 4) (e := 215) (by kernel_rfl) Tryz.underlying148 Tryz.sizeOf215, ?_⟩
  intro k i0 z h1 h2 h3 h4
  exact { mixed := by kernel_rfl, t3 := Tryz.underlying3, t4 := Tryz.underlying4, t24 := Tryz.underlying148, i9 := h1, s9 := h2, z9 := h3, zs := h4, zero3 := Tryz.zeroValue3, zero4 := Tryz.zeroValue4, agg3 := Tryz.isAgg3, agg4 := Tryz.isAgg4, agg24 := Tryz.isAgg148, size3 := Tryz.sizeOf3, size4 := Tryz.sizeOf4, size24 := Tryz.sizeOf148 }
theorem Tryz.prim134 {ext : PT ExtK} {prim : PT PrimK} {sy : PT (List SE)} {G : GS} : PrimFits Tryz.prog (mkEnvS Tryz.prog ext prim sy) G 134 (.insert 148) :=
  ⟨⟨Tryz.f134, Tryz.func134, by kernel_rfl, by kernel_rfl⟩, fun args H v H' h => insert_ok (ρ := Tryz.r134) (mkEnvS_ty Tryz.prog ext prim sy) Tryz.ins134 h (by kernel_rfl) (by kernel_rfl)⟩
def Tryz.r135 : Ren := ⟨fun | 22 => 135 | 29 => 218 | 30 => 219 | n => n, fun | 24 => 138 | 9 => 225 | n => n, fun n => n⟩
theorem Tryz.ins135 : InsFn Tryz.prog Tryz.r135 Tryz.f135 := by
  refine ⟨Tryz.func135, by kernel_rfl, Tryz.ntmps135, by kernel_rfl, ov_of (P := Tryz.prog) (f := 218) Tryz.func218 (by kernel_rfl) (by kernel_rfl) (by kernel_rfl) (tS := 138) (tR := 4) (e := 225) (by kernel_rfl) Tryz.underlying138 Tryz.sizeOf225, ?_⟩
  intro k i0 z h1 h2 h3 h4
  exact { mixed := by kernel_rfl, t3 := Tryz.underlying3, t4 := Tryz.underlying4, t24 := Tryz.underlying138, i9 := h1, s9 := h2, z9 := h3, zs := h4, zero3 := Tryz.zeroValue3, zero4 := Tryz.zeroValue4, agg3 := Tryz.isAgg3, agg4 := Tryz.isAgg4, agg24 := Tryz.isAgg138, size3 := Tryz.sizeOf3, size4 := Tryz.sizeOf4, size24 := Tryz.sizeOf138 }
theorem Tryz.prim135 {ext : PT ExtK} {prim : PT PrimK} {sy : PT (List SE)} {G : GS} : PrimFits Tryz.prog (mkEnvS Tryz.prog ext prim sy) G 135 (.insert 138) :=
  ⟨⟨Tryz.f135, Tryz.func135, by kernel_rfl, by kernel_rfl⟩, fun args H v H' h => insert_ok (ρ := Tryz.r135) (mkEnvS_ty Tryz.prog ext prim sy) Tryz.ins135 h (by kernel_rfl) (by kernel_rfl)⟩
def Tryz.r241 : Ren := ⟨fun | 22 => 241 | 29 => 293 | 30 => 294 | n => n, fun | 24 => 248 | 9 => 359 | n => n, fun n => n⟩
theorem Tryz.ins241 : InsFn Tryz.prog Tryz.r241 Tryz.f241 := by
  refine ⟨Tryz.func241, by kernel_rfl, Tryz.ntmps241, by kernel_rfl, ov_of (P := Tryz.prog) (f := 293) Tryz.func293 (by kernel_rfl) (by kernel_rfl) (by kernel_rfl) (tS := 248) (tR := 4) (e := 359) (by kernel_rfl) Tryz.underlying248 Tryz.sizeOf359, ?_⟩
  intro k i0 z h1 h2 h3 h4
  exact { mixed := by kernel_rfl, t3 := Tryz.underlying3, t4 := Tryz.underlying4, t24 := Tryz.underlying248, i9 := h1, s9 := h2, z9 := h3, zs := h4, zero3 := Tryz.zeroValue3, zero4 := Tryz.zeroValue4, agg3 := Tryz.isAgg3, agg4 := Tryz.isAgg4, agg24 := Tryz.isAgg248, size3 := Tryz.sizeOf3, size4 := Tryz.sizeOf4, size24 := Tryz.sizeOf248 }
theorem Tryz.prim241 {ext : PT ExtK} {prim : PT PrimK} {sy : PT (List SE)} {G : GS} : PrimFits Tryz.prog (mkEnvS Tryz.prog ext prim sy) G 241 (.insert 248) :=
  ⟨⟨Tryz.f241, Tryz.func241, by kernel_rfl, by kernel_rfl⟩, fun args H v H' h => insert_ok (ρ := Tryz.r241) (mkEnvS_ty Tryz.prog ext prim sy) Tryz.ins241 h (by kernel_rfl) (by kernel_rfl)⟩
end
noncomputable section
theorem Tryz.sorts (m : Nat) : AnyZ.SortsIn Tryz.prog Tryz.sortedA_ren Fence.wide m :=
  ⟨fun blk off cap ss W hH hblk hsz => callsIn_wide.2 (AnyM.slices_Sort_string Tryz.sortA blk off cap ss W hH hblk hsz), fun p cap W => callsIn_wide.2 (AnyM.slices_Sort_string_none Tryz.sortA p cap W)⟩
theorem Tryz.srt298 : SrtFn Tryz.prog Tryz.keys298_ren Tryz.sortedA_ren :=
  ⟨{ Tryz.keys298 with }, Tryz.sortedA, Tryz.sorts, enters_of Tryz.func290 (by kernel_rfl) rfl, enters_of Tryz.func298 (by kernel_rfl) rfl, by kernel_rfl⟩
theorem Tryz.srt325 : SrtFn Tryz.prog Tryz.keys325_ren Tryz.sortedA_ren :=
  ⟨{ Tryz.keys325 with }, Tryz.sortedA, Tryz.sorts, enters_of Tryz.func290 (by kernel_rfl) rfl, enters_of Tryz.func325 (by kernel_rfl) rfl, by kernel_rfl⟩
theorem Tryz.prim248 {ext : PT ExtK} {prim : PT PrimK} {sy : PT (List SE)} {G : GS} : PrimFits Tryz.prog (mkEnvS Tryz.prog ext prim sy) G 248 (.sortedKeys 9 [298, 325]) :=
  ⟨⟨Tryz.f248, Tryz.func248, by kernel_rfl, by kernel_rfl⟩, fun args H v H' h => sorted_any (ρs := Tryz.sortedA_ren) (l := [Tryz.keys298_ren, Tryz.keys325_ren]) (by
    intro r hr
    simp only [List.mem_cons, List.mem_nil_iff, or_false] at hr
    rcases hr with rfl | rfl
    · exact Tryz.srt298
    · exact Tryz.srt325
    ) h⟩
end
noncomputable section
theorem Tryz.sortsI (m : Nat) : AnyZI.SortsIn Tryz.prog Tryz.sortedI_ren Fence.wide m :=
  ⟨fun blk off cap ss W hH hblk hsz => callsIn_wide.2 (AnyM.slices_Sort_int Tryz.sortI blk off cap ss W hH hblk hsz), fun p cap W => callsIn_wide.2 (AnyM.slices_Sort_int_none Tryz.sortI p cap W)⟩
theorem Tryz.srtI140 : SrtFnI Tryz.prog Tryz.keysI140_ren Tryz.sortedI_ren :=
  ⟨{ Tryz.keysI140 with }, Tryz.sortedI, Tryz.sortsI, enters_of Tryz.func139 (by kernel_rfl) rfl, enters_of Tryz.func140 (by kernel_rfl) rfl, by kernel_rfl⟩
theorem Tryz.prim87 {ext : PT ExtK} {prim : PT PrimK} {sy : PT (List SE)} {G : GS} : PrimFits Tryz.prog (mkEnvS Tryz.prog ext prim sy) G 87 (.sortedInts 3 [140]) :=
  ⟨⟨Tryz.f87, Tryz.func87, by kernel_rfl, by kernel_rfl⟩, fun args H v H' h => sortedI_any (ρs := Tryz.sortedI_ren) (l := [Tryz.keysI140_ren]) (by
    intro r hr
    simp only [List.mem_cons, List.mem_nil_iff, or_false] at hr
    rcases hr with rfl
    · exact Tryz.srtI140
    ) h⟩
def Tryz.primL : List (Nat × PrimK) := [(130, .insert 142), (132, .insert 145), (134, .insert 148), (135, .insert 138), (241, .insert 248), (248, .sortedKeys 9 [298, 325]), (87, .sortedInts 3 [140])]
theorem Tryz.primsOk {ext : PT ExtK} {prim : PT PrimK} {sy : PT (List SE)} {G : GS} : ∀ x ∈ Tryz.primL, PrimFits Tryz.prog (mkEnvS Tryz.prog ext prim sy) G x.1 x.2 := by
  intro x hx
  simp only [Tryz.primL, List.mem_cons, List.mem_nil_iff, or_false] at hx
  rcases hx with rfl | rfl | rfl | rfl | rfl | rfl | rfl
  · exact Tryz.prim130
  · exact Tryz.prim132
  · exact Tryz.prim134
  · exact Tryz.prim135
  · exact Tryz.prim241
  · exact Tryz.prim248
  · exact Tryz.prim87
theorem Tryz.chk0 : (List.range' 0 60).all (chkF Tryz.prog) = true := by kernel_rfl
theorem Tryz.chk1 : (List.range' 60 60).all (chkF Tryz.prog) = true := by kernel_rfl
theorem Tryz.chk2 : (List.range' 120 60).all (chkF Tryz.prog) = true := by kernel_rfl
theorem Tryz.chk3 : (List.range' 180 60).all (chkF Tryz.prog) = true := by kernel_rfl
theorem Tryz.chk4 : (List.range' 240 60).all (chkF Tryz.prog) = true := by kernel_rfl
theorem Tryz.chk5 : (List.range' 300 60).all (chkF Tryz.prog) = true := by kernel_rfl
theorem Tryz.chk6 : (List.range' 360 60).all (chkF Tryz.prog) = true := by kernel_rfl
theorem Tryz.nfuncs : Tryz.prog.funcs.size = 413 := by kernel_rfl
theorem Tryz.nglob : Tryz.prog.globals.size = 8 := by kernel_rfl
theorem Tryz.chk : ∀ f, f < Tryz.prog.funcs.size → chkF Tryz.prog f = true := by
  intro f hf
  rw [Tryz.nfuncs] at hf
  by_cases h0 : f < 60
  · exact all_range Tryz.chk0 f (by omega) (by omega)
  by_cases h1 : f < 120
  · exact all_range Tryz.chk1 f (by omega) (by omega)
  by_cases h2 : f < 180
  · exact all_range Tryz.chk2 f (by omega) (by omega)
  by_cases h3 : f < 240
  · exact all_range Tryz.chk3 f (by omega) (by omega)
  by_cases h4 : f < 300
  · exact all_range Tryz.chk4 f (by omega) (by omega)
  by_cases h5 : f < 360
  · exact all_range Tryz.chk5 f (by omega) (by omega)
  exact all_range Tryz.chk6 f (by omega) (by omega)
def Tryz.Gm (mu : Mu) : GS := initGSm 8 (firstHeap 8 Tryz.gsL) mu
def Tryz.Es (m : List (Nat × PrimK)) (sy : PT (List SE)) : Go.Vsx.Env := mkEnvS Tryz.prog Tryz.ext (ptOf (m ++ Tryz.primL)) sy
theorem Tryz.callOkS (m : List (Nat × PrimK)) (sy : PT (List SE)) (mu : Mu) (hm : ∀ x ∈ m, PrimFits Tryz.prog (Tryz.Es m sy) (Tryz.Gm mu) x.1 x.2) (hy : SymOk (Tryz.Es m sy) mu) (n : Nat) :
    CallOk Tryz.prog (Tryz.Gm mu) (callE (Tryz.Es m sy) (execC (Tryz.Es m sy) n)) :=
  Vsx.callOkS Tryz.nglob (by kernel_rfl) Tryz.extOk Tryz.chk (prim_of rfl fun x hx => (List.mem_append.1 hx).elim (hm x) (Tryz.primsOk x)) hy n
theorem Tryz.callOk (m : List (Nat × PrimK)) (hm : ∀ x ∈ m, PrimFits Tryz.prog (Tryz.Es m .leaf) (Tryz.Gm noMu) x.1 x.2) (n : Nat) :
    CallOk Tryz.prog (Tryz.Gm noMu) (callE (Tryz.Es m .leaf) (execC (Tryz.Es m .leaf) n)) := Tryz.callOkS m .leaf noMu hm (.none rfl) n
theorem Tryz.right (m : List (Nat × PrimK)) (sy : PT (List SE)) (mu : Mu) (W : World) (hm : ∀ x ∈ m, PrimFits Tryz.prog (Tryz.Es m sy) (Tryz.Gm mu) x.1 x.2) (hy : SymOk (Tryz.Es m sy) mu) :
    Right Tryz.prog (Tryz.Es m sy) (lawG 8 (firstHeap 8 Tryz.gsL) W mu) :=
  right_of Tryz.nglob (by kernel_rfl) Tryz.extOk Tryz.chk (prim_of rfl fun x hx => (List.mem_append.1 hx).elim (fun h => (hm x h).law) (Tryz.primsOk x)) hy
end

end Go.Proofs
