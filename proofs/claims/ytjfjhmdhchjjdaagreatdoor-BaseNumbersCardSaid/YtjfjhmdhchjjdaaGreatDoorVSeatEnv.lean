/- What the executor is told of this program: its library functions without a body, the functions that are taken by a contract (slices.Insert, slices.Sorted), and that each function passes the static check. No conditions. -/
import Derived.Test.YtjfjhmdhchjjdaaGreatDoorVTab
import Derived.Test.YtjfjhmdhchjjdaaGreatDoorVIns2
import Derived.Test.YtjfjhmdhchjjdaaGreatDoorVSrt

import Derived.Test.YtjfjhmdhchjjdaaGreatDoorVSeatLay
import Derived.Test.YtjfjhmdhchjjdaaGreatDoorProg
import Derived.KernelRfl
set_option linter.all false
namespace Go.Proofs
open Go Go.Vsx Go.Shelf Go.RowKit
set_option maxRecDepth 1000000
noncomputable section
def Tryz.extL : List (Nat × ExtK) := [(238, .cmp), (263, .count), (268, .noEscape), (269, .makeNoZero 5), (316, .indexByte), (318, .mapsClone)]
def Tryz.ext : PT ExtK := ptOf Tryz.extL
theorem Tryz.extOk : ∀ f k, Tryz.ext.get f = some k → ExtFits Tryz.prog f k := by
  intro f k h
  have hm := ptOf_mem _ f k h
  simp only [Tryz.extL, List.mem_cons, List.mem_nil_iff, or_false, Prod.mk.injEq] at hm
  rcases hm with ⟨rfl, rfl⟩ | ⟨rfl, rfl⟩ | ⟨rfl, rfl⟩ | ⟨rfl, rfl⟩ | ⟨rfl, rfl⟩ | ⟨rfl, rfl⟩
  · exact ⟨Tryz.f238, Tryz.func238, by kernel_rfl, by kernel_rfl, by kernel_rfl, show Extern.find Tryz.f238 = some Extern.BytealgCompare.compare from by kernel_rfl⟩
  · exact ⟨Tryz.f263, Tryz.func263, by kernel_rfl, by kernel_rfl, by kernel_rfl, show Extern.find Tryz.f263 = some Extern.BytealgCount.count from by kernel_rfl⟩
  · exact ⟨Tryz.f268, Tryz.func268, by kernel_rfl, by kernel_rfl, by kernel_rfl, show Extern.find Tryz.f268 = some Extern.AbiNoEscape.same from by kernel_rfl⟩
  · exact ⟨Tryz.f269, Tryz.func269, by kernel_rfl, by kernel_rfl, by kernel_rfl, ⟨#[3], 23, by kernel_rfl, Tryz.underlying23⟩⟩
  · exact ⟨Tryz.f316, Tryz.func316, by kernel_rfl, by kernel_rfl, by kernel_rfl, show Extern.find Tryz.f316 = some Extern.BytealgIndexByte.indexByte from by kernel_rfl⟩
  · exact ⟨Tryz.f318, Tryz.func318, by kernel_rfl, by kernel_rfl, by kernel_rfl, show Extern.find Tryz.f318 = some Extern.MapsClone.clone from by kernel_rfl⟩
def Tryz.gsL : List Nat := [1, 2]
def Tryz.r67 : Ren := ⟨fun | 22 => 67 | 29 => 142 | 30 => 143 | n => n, fun | 24 => 114 | 9 => 121 | n => n, fun n => n⟩
theorem Tryz.ins67 : InsFn Tryz.prog Tryz.r67 Tryz.f67 := by
  refine ⟨Tryz.func67, by kernel_rfl, Tryz.ntmps67, by kernel_rfl, ov_of (P := Tryz.prog) (f := 142) Tryz.func142 (by kernel_rfl) (by kernel_rfl) (by kernel_rfl) (tS := 114) (tR := 4) (e := 121) (by kernel_rfl) Tryz.underlying114 Tryz.sizeOf121, ?_⟩
  intro k i0 z h1 h2 h3 h4
  exact { mixed := by kernel_rfl, t3 := Tryz.underlying3, t4 := Tryz.underlying4, t24 := Tryz.underlying114, i9 := h1, s9 := h2, z9 := h3, zs := h4, zero3 := Tryz.zeroValue3, zero4 := Tryz.zeroValue4, agg3 := Tryz.isAgg3, agg4 := Tryz.isAgg4, agg24 := Tryz.isAgg114, size3 := Tryz.sizeOf3, size4 := Tryz.sizeOf4, size24 := Tryz.sizeOf114 }
theorem Tryz.prim67 {ext : PT ExtK} {prim : PT PrimK} {sy : PT (List SE)} {G : GS} : PrimFits Tryz.prog (mkEnvS Tryz.prog ext prim sy) G 67 (.insert 114) :=
  ⟨⟨Tryz.f67, Tryz.func67, by kernel_rfl, by kernel_rfl⟩, fun args H v H' h => insert_ok (ρ := Tryz.r67) (mkEnvS_ty Tryz.prog ext prim sy) Tryz.ins67 h (by kernel_rfl) (by kernel_rfl)⟩
def Tryz.r197 : Ren := ⟨fun | 22 => 197 | 29 => 240 | 30 => 241 | n => n, fun | 24 => 224 | 9 => 288 | n => n, fun n => n⟩
theorem Tryz.ins197 : InsFn Tryz.prog Tryz.r197 Tryz.f197 := by
  refine ⟨Tryz.func197, by kernel_rfl, Tryz.ntmps197, by kernel_rfl, ov_of (P := Tryz.prog) (f := 240) Tryz.func240 (by kernel_rfl) (by kernel_rfl) (by kernel_rfl) (tS := 224) (tR := 4) (e := 288) (by kernel_rfl) Tryz.underlying224 Tryz.sizeOf288, ?_⟩
  intro k i0 z h1 h2 h3 h4
  exact { mixed := by kernel_rfl, t3 := Tryz.underlying3, t4 := Tryz.underlying4, t24 := Tryz.underlying224, i9 := h1, s9 := h2, z9 := h3, zs := h4, zero3 := Tryz.zeroValue3, zero4 := Tryz.zeroValue4, agg3 := Tryz.isAgg3, agg4 := Tryz.isAgg4, agg24 := Tryz.isAgg224, size3 := Tryz.sizeOf3, size4 := Tryz.sizeOf4, size24 := Tryz.sizeOf224 }
theorem Tryz.prim197 {ext : PT ExtK} {prim : PT PrimK} {sy : PT (List SE)} {G : GS} : PrimFits Tryz.prog (mkEnvS Tryz.prog ext prim sy) G 197 (.insert 224) :=
  ⟨⟨Tryz.f197, Tryz.func197, by kernel_rfl, by kernel_rfl⟩, fun args H v H' h => insert_ok (ρ := Tryz.r197) (mkEnvS_ty Tryz.prog ext prim sy) Tryz.ins197 h (by kernel_rfl) (by kernel_rfl)⟩
def Tryz.r199 : Ren := ⟨fun | 22 => 199 | 29 => 242 | 30 => 243 | n => n, fun | 24 => 227 | 9 => 285 | n => n, fun n => n⟩
theorem Tryz.ins199 : InsFn Tryz.prog Tryz.r199 Tryz.f199 := by
  refine ⟨Tryz.func199, by kernel_rfl, Tryz.ntmps199, by kernel_rfl, ov_of (P := Tryz.prog) (f := 242) Tryz.func242 (by kernel_rfl) (by kernel_rfl) (by kernel_rfl) (tS := 227) (tR := 4) (e := 285) (by kernel_rfl) Tryz.underlying227 Tryz.sizeOf285, ?_⟩
  intro k i0 z h1 h2 h3 h4
  exact { mixed := by kernel_rfl, t3 := Tryz.underlying3, t4 := Tryz.underlying4, t24 := Tryz.underlying227, i9 := h1, s9 := h2, z9 := h3, zs := h4, zero3 := Tryz.zeroValue3, zero4 := Tryz.zeroValue4, agg3 := Tryz.isAgg3, agg4 := Tryz.isAgg4, agg24 := Tryz.isAgg227, size3 := Tryz.sizeOf3, size4 := Tryz.sizeOf4, size24 := Tryz.sizeOf227 }
theorem Tryz.prim199 {ext : PT ExtK} {prim : PT PrimK} {sy : PT (List SE)} {G : GS} : PrimFits Tryz.prog (mkEnvS Tryz.prog ext prim sy) G 199 (.insert 227) :=
  ⟨⟨Tryz.f199, Tryz.func199, by kernel_rfl, by kernel_rfl⟩, fun args H v H' h => insert_ok (ρ := Tryz.r199) (mkEnvS_ty Tryz.prog ext prim sy) Tryz.ins199 h (by kernel_rfl) (by kernel_rfl)⟩
def Tryz.r202 : Ren := ⟨fun | 22 => 202 | 29 => 244 | 30 => 245 | n => n, fun | 24 => 230 | 9 => 294 | n => n, fun n => n⟩
theorem Tryz.ins202 : InsFn Tryz.prog Tryz.r202 Tryz.f202 := by
  refine ⟨Tryz.func202, by kernel_rfl, Tryz.ntmps202, by kernel_rfl, ov_of (P := Tryz.prog) (f := 244) Tryz.func244 (by kernel_rfl) (by kernel_rfl) (by kernel_rfl) (tS := 230) (tR := 4) (e := 294) (by kernel_rfl) Tryz.underlying230 Tryz.sizeOf294, ?_⟩
  intro k i0 z h1 h2 h3 h4
  exact { mixed := by kernel_rfl, t3 := Tryz.underlying3, t4 := Tryz.underlying4, t24 := Tryz.underlying230, i9 := h1, s9 := h2, z9 := h3, zs := h4, zero3 := Tryz.zeroValue3, zero4 := Tryz.zeroValue4, agg3 := Tryz.isAgg3, agg4 := Tryz.isAgg4, agg24 := Tryz.isAgg230, size3 := Tryz.sizeOf3, size4 := Tryz.sizeOf4, size24 := Tryz.sizeOf230 }
theorem Tryz.prim202 {ext : PT ExtK} {prim : PT PrimK} {sy : PT (List SE)} {G : GS} : PrimFits Tryz.prog (mkEnvS Tryz.prog ext prim sy) G 202 (.insert 230) :=
  ⟨⟨Tryz.f202, Tryz.func202, by kernel_rfl, by kernel_rfl⟩, fun args H v H' h => insert_ok (ρ := Tryz.r202) (mkEnvS_ty Tryz.prog ext prim sy) Tryz.ins202 h (by kernel_rfl) (by kernel_rfl)⟩
def Tryz.r204 : Ren := ⟨fun | 22 => 204 | 29 => 246 | 30 => 247 | n => n, fun | 24 => 147 | 9 => 165 | n => n, fun n => n⟩
theorem Tryz.ins204 : InsFn Tryz.prog Tryz.r204 Tryz.f204 := by
  refine ⟨Tryz.func204, by kernel_rfl, Tryz.ntmps204, by kernel_rfl, ov_of (P := Tryz.prog) (f := 246) Tryz.func246 (by kernel_rfl) (by kernel_rfl) (by kernel_rfl) (tS := 147) (tR := 4) (e := 165) (by kernel_rfl) Tryz.underlying147 Tryz.sizeOf165, ?_⟩
  intro k i0 z h1 h2 h3 h4
  exact { mixed := by kernel_rfl, t3 := Tryz.underlying3, t4 := Tryz.underlying4, t24 := Tryz.underlying147, i9 := h1, s9 := h2, z9 := h3, zs := h4, zero3 := Tryz.zeroValue3, zero4 := Tryz.zeroValue4, agg3 := Tryz.isAgg3, agg4 := Tryz.isAgg4, agg24 := Tryz.isAgg147, size3 := Tryz.sizeOf3, size4 := Tryz.sizeOf4, size24 := Tryz.sizeOf147 }
theorem Tryz.prim204 {ext : PT ExtK} {prim : PT PrimK} {sy : PT (List SE)} {G : GS} : PrimFits Tryz.prog (mkEnvS Tryz.prog ext prim sy) G 204 (.insert 147) :=
  ⟨⟨Tryz.f204, Tryz.func204, by kernel_rfl, by kernel_rfl⟩, fun args H v H' h => insert_ok (ρ := Tryz.r204) (mkEnvS_ty Tryz.prog ext prim sy) Tryz.ins204 h (by kernel_rfl) (by kernel_rfl)⟩
end
noncomputable section
theorem Tryz.sorts (m : Nat) : AnyZ.SortsIn Tryz.prog Tryz.sortedA_ren Fence.wide m :=
  ⟨fun blk off cap ss W hH hblk hsz => callsIn_wide.2 (AnyM.slices_Sort_string Tryz.sortA blk off cap ss W hH hblk hsz), fun p cap W => callsIn_wide.2 (AnyM.slices_Sort_string_none Tryz.sortA p cap W)⟩
theorem Tryz.srt219 : SrtFn Tryz.prog Tryz.keys219_ren Tryz.sortedA_ren :=
  ⟨{ Tryz.keys219 with }, Tryz.sortedA, Tryz.sorts, enters_of Tryz.func213 (by kernel_rfl) rfl, enters_of Tryz.func219 (by kernel_rfl) rfl, by kernel_rfl⟩
theorem Tryz.srt237 : SrtFn Tryz.prog Tryz.keys237_ren Tryz.sortedA_ren :=
  ⟨{ Tryz.keys237 with }, Tryz.sortedA, Tryz.sorts, enters_of Tryz.func213 (by kernel_rfl) rfl, enters_of Tryz.func237 (by kernel_rfl) rfl, by kernel_rfl⟩
theorem Tryz.prim171 {ext : PT ExtK} {prim : PT PrimK} {sy : PT (List SE)} {G : GS} : PrimFits Tryz.prog (mkEnvS Tryz.prog ext prim sy) G 171 (.sortedKeys 9 [219, 237]) :=
  ⟨⟨Tryz.f171, Tryz.func171, by kernel_rfl, by kernel_rfl⟩, fun args H v H' h => sorted_any (ρs := Tryz.sortedA_ren) (l := [Tryz.keys219_ren, Tryz.keys237_ren]) (by
    intro r hr
    simp only [List.mem_cons, List.mem_nil_iff, or_false] at hr
    rcases hr with rfl | rfl
    · exact Tryz.srt219
    · exact Tryz.srt237
    ) h⟩
def Tryz.primL : List (Nat × PrimK) := [(67, .insert 114), (197, .insert 224), (199, .insert 227), (202, .insert 230), (204, .insert 147), (171, .sortedKeys 9 [219, 237])]
theorem Tryz.primsOk {ext : PT ExtK} {prim : PT PrimK} {sy : PT (List SE)} {G : GS} : ∀ x ∈ Tryz.primL, PrimFits Tryz.prog (mkEnvS Tryz.prog ext prim sy) G x.1 x.2 := by
  intro x hx
  simp only [Tryz.primL, List.mem_cons, List.mem_nil_iff, or_false] at hx
  rcases hx with rfl | rfl | rfl | rfl | rfl | rfl
  · exact Tryz.prim67
  · exact Tryz.prim197
  · exact Tryz.prim199
  · exact Tryz.prim202
  · exact Tryz.prim204
  · exact Tryz.prim171
theorem Tryz.chk0 : (List.range' 0 60).all (chkF Tryz.prog) = true := by kernel_rfl
theorem Tryz.chk1 : (List.range' 60 60).all (chkF Tryz.prog) = true := by kernel_rfl
theorem Tryz.chk2 : (List.range' 120 60).all (chkF Tryz.prog) = true := by kernel_rfl
theorem Tryz.chk3 : (List.range' 180 60).all (chkF Tryz.prog) = true := by kernel_rfl
theorem Tryz.chk4 : (List.range' 240 60).all (chkF Tryz.prog) = true := by kernel_rfl
theorem Tryz.chk5 : (List.range' 300 60).all (chkF Tryz.prog) = true := by kernel_rfl
theorem Tryz.nfuncs : Tryz.prog.funcs.size = 353 := by kernel_rfl
theorem Tryz.nglob : Tryz.prog.globals.size = 8 := by kernel_rfl
theorem Tryz.chk : ∀ f, f < Tryz.prog.funcs.size → chkF Tryz.prog f = true := by
  intro f hf
  rw [Tryz.nfuncs] at hf
  by_cases h0 : f < 60
  · exact all_range Tryz.chk0 f (by omega) (by omega)
  by_cases h1 : f < 120
  · exact all_range Tryz.chk1 f (by omega) (by omega)
  by_cases h2 : f < 180
  · exact all_range Tryz.chk2 f (by omega) (by omega)
  by_cases h3 : f < 240
  · exact all_range Tryz.chk3 f (by omega) (by omega)
  by_cases h4 : f < 300
  · exact all_range Tryz.chk4 f (by omega) (by omega)
  exact all_range Tryz.chk5 f (by omega) (by omega)
def Tryz.gtL : List (Nat × List Value) := []
def Tryz.H0 : Heap := firstHeapT 8 Tryz.gsL Tryz.gtL
def Tryz.Gm (mu : Mu) : GS := initGSm 8 Tryz.H0 mu
def Tryz.Es (m : List (Nat × PrimK)) (sy : PT (List SE)) : Go.Vsx.Env := mkEnvS Tryz.prog Tryz.ext (ptOf (m ++ Tryz.primL)) sy
theorem Tryz.callOkS (m : List (Nat × PrimK)) (sy : PT (List SE)) (mu : Mu) (hm : ∀ x ∈ m, PrimFits Tryz.prog (Tryz.Es m sy) (Tryz.Gm mu) x.1 x.2) (hy : SymOk (Tryz.Es m sy) mu) (n : Nat) :
    CallOk Tryz.prog (Tryz.Gm mu) (callE (Tryz.Es m sy) (execC (Tryz.Es m sy) n)) :=
  Vsx.callOkS Tryz.nglob (by kernel_rfl) Tryz.extOk Tryz.chk (prim_of rfl fun x hx => (List.mem_append.1 hx).elim (hm x) (Tryz.primsOk x)) hy n
theorem Tryz.callOk (m : List (Nat × PrimK)) (hm : ∀ x ∈ m, PrimFits Tryz.prog (Tryz.Es m .leaf) (Tryz.Gm noMu) x.1 x.2) (n : Nat) :
    CallOk Tryz.prog (Tryz.Gm noMu) (callE (Tryz.Es m .leaf) (execC (Tryz.Es m .leaf) n)) := Tryz.callOkS m .leaf noMu hm (.none rfl) n
theorem Tryz.right (m : List (Nat × PrimK)) (sy : PT (List SE)) (mu : Mu) (W : World) (hm : ∀ x ∈ m, PrimFits Tryz.prog (Tryz.Es m sy) (Tryz.Gm mu) x.1 x.2) (hy : SymOk (Tryz.Es m sy) mu) :
    Right Tryz.prog (Tryz.Es m sy) (lawG 8 Tryz.H0 W mu) :=
  right_of Tryz.nglob (by kernel_rfl) Tryz.extOk Tryz.chk (prim_of rfl fun x hx => (List.mem_append.1 hx).elim (fun h => (hm x h).law) (Tryz.primsOk x)) hy
end

end Go.Proofs
