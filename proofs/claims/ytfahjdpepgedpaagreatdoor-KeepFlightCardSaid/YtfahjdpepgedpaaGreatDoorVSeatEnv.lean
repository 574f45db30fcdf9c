/- What the executor is told of this program: its library functions without a body, the functions that are taken by a contract (slices.Insert, slices.Sorted), and that each function passes the static check. No conditions. -/
import Derived.Test.YtfahjdpepgedpaaGreatDoorVTab
import Derived.Test.YtfahjdpepgedpaaGreatDoorVIns2
import Derived.Test.YtfahjdpepgedpaaGreatDoorVSrt

import Derived.Test.YtfahjdpepgedpaaGreatDoorVSeatLay
import Derived.Test.YtfahjdpepgedpaaGreatDoorProg
import Derived.KernelRfl
set_option linter.all false
namespace Go.Proofs
open Go Go.Vsx Go.Shelf Go.RowKit
set_option maxRecDepth 1000000
noncomputable section
def Tryz.extL : List (Nat × ExtK) := [(229, .cmp), (257, .count), (262, .noEscape), (263, .makeNoZero 5), (310, .indexByte), (312, .mapsClone)]
def Tryz.ext : PT ExtK := ptOf Tryz.extL
theorem Tryz.extOk : ∀ f k, Tryz.ext.get f = some k → ExtFits Tryz.prog f k := by
  intro f k h
  have hm := ptOf_mem _ f k h
  simp only [Tryz.extL, List.mem_cons, List.mem_nil_iff, or_false, Prod.mk.injEq] at hm
  rcases hm with ⟨rfl, rfl⟩ | ⟨rfl, rfl⟩ | ⟨rfl, rfl⟩ | ⟨rfl, rfl⟩ | ⟨rfl, rfl⟩ | ⟨rfl, rfl⟩
  · exact ⟨Tryz.f229, Tryz.func229, by kernel_rfl, by kernel_rfl, by kernel_rfl, show Extern.find Tryz.f229 = some Extern.BytealgCompare.compare from by kernel_rfl⟩
  · exact ⟨Tryz.f257, Tryz.func257, by kernel_rfl, by kernel_rfl, by kernel_rfl, show Extern.find Tryz.f257 = some Extern.BytealgCount.count from by kernel_rfl⟩
  · exact ⟨Tryz.f262, Tryz.func262, by kernel_rfl, by kernel_rfl, by kernel_rfl, show Extern.find Tryz.f262 = some Extern.AbiNoEscape.same from by kernel_rfl⟩
  · exact ⟨Tryz.f263, Tryz.func263, by kernel_rfl, by kernel_rfl, by kernel_rfl, ⟨#[3], 32, by kernel_rfl, Tryz.underlying32⟩⟩
  · exact ⟨Tryz.f310, Tryz.func310, by kernel_rfl, by kernel_rfl, by kernel_rfl, show Extern.find Tryz.f310 = some Extern.BytealgIndexByte.indexByte from by kernel_rfl⟩
  · exact ⟨Tryz.f312, Tryz.func312, by kernel_rfl, by kernel_rfl, by kernel_rfl, show Extern.find Tryz.f312 = some Extern.MapsClone.clone from by kernel_rfl⟩
def Tryz.gsL : List Nat := [1, 2]
def Tryz.r49 : Ren := ⟨fun | 22 => 49 | 29 => 118 | 30 => 119 | n => n, fun | 24 => 85 | 9 => 99 | n => n, fun n => n⟩
theorem Tryz.ins49 : InsFn Tryz.prog Tryz.r49 Tryz.f49 := by
  refine ⟨Tryz.func49, by kernel_rfl, Tryz.ntmps49, by kernel_rfl, ov_of (P := Tryz.prog) (f := 118) Tryz.func118 (by kernel_rfl) (by kernel_rfl) (by kernel_rfl) (tS := 85) (tR := 4) (e := 99) (by kernel_rfl) Tryz.underlying85 Tryz.sizeOf99, ?_⟩
  intro k i0 z h1 h2 h3 h4
  exact { mixed := by kernel_rfl, t3 := Tryz.underlying3, t4 := Tryz.underlying4, t24 := Tryz.underlying85, i9 := h1, s9 := h2, z9 := h3, zs := h4, zero3 := Tryz.zeroValue3, zero4 := Tryz.zeroValue4, agg3 := Tryz.isAgg3, agg4 := Tryz.isAgg4, agg24 := Tryz.isAgg85, size3 := Tryz.sizeOf3, size4 := Tryz.sizeOf4, size24 := Tryz.sizeOf85 }
theorem Tryz.prim49 {ext : PT ExtK} {prim : PT PrimK} {sy : PT (List SE)} {G : GS} : PrimFits Tryz.prog (mkEnvS Tryz.prog ext prim sy) G 49 (.insert 85) :=
  ⟨⟨Tryz.f49, Tryz.func49, by kernel_rfl, by kernel_rfl⟩, fun args H v H' h => insert_ok (ρ := Tryz.r49) (mkEnvS_ty Tryz.prog ext prim sy) Tryz.ins49 h (by kernel_rfl) (by kernel_rfl)⟩
def Tryz.r194 : Ren := ⟨fun | 22 => 194 | 29 => 235 | 30 => 236 | n => n, fun | 24 => 213 | 9 => 285 | n => n, fun n => n⟩
theorem Tryz.ins194 : InsFn Tryz.prog Tryz.r194 Tryz.f194 := by
  refine ⟨Tryz.func194, by kernel_rfl, Tryz.ntmps194, by kernel_rfl, ov_of (P := Tryz.prog) (f := 235) Tryz.func235 (by kernel_rfl) (by kernel_rfl) (by kernel_rfl) (tS := 213) (tR := 4) (e := 285) (by kernel_rfl) Tryz.underlying213 Tryz.sizeOf285, ?_⟩
  intro k i0 z h1 h2 h3 h4
  exact { mixed := by kernel_rfl, t3 := Tryz.underlying3, t4 := Tryz.underlying4, t24 := Tryz.underlying213, i9 := h1, s9 := h2, z9 := h3, zs := h4, zero3 := Tryz.zeroValue3, zero4 := Tryz.zeroValue4, agg3 := Tryz.isAgg3, agg4 := Tryz.isAgg4, agg24 := Tryz.isAgg213, size3 := Tryz.sizeOf3, size4 := Tryz.sizeOf4, size24 := Tryz.sizeOf213 }
theorem Tryz.prim194 {ext : PT ExtK} {prim : PT PrimK} {sy : PT (List SE)} {G : GS} : PrimFits Tryz.prog (mkEnvS Tryz.prog ext prim sy) G 194 (.insert 213) :=
  ⟨⟨Tryz.f194, Tryz.func194, by kernel_rfl, by kernel_rfl⟩, fun args H v H' h => insert_ok (ρ := Tryz.r194) (mkEnvS_ty Tryz.prog ext prim sy) Tryz.ins194 h (by kernel_rfl) (by kernel_rfl)⟩
def Tryz.r196 : Ren := ⟨fun | 22 => 196 | 29 => 237 | 30 => 238 | n => n, fun | 24 => 216 | 9 => 282 | n => n, fun n => n⟩
theorem Tryz.ins196 : InsFn Tryz.prog Tryz.r196 Tryz.f196 := by
  refine ⟨Tryz.func196, by kernel_rfl, Tryz.ntmps196, by kernel_rfl, ov_of (P := Tryz.prog) (f := 237) Tryz.func237 (by kernel_rfl) (by kernel_rfl) (by kernel_rfl) (tS := 216) (tR := 4) (e := 282) (by kernel_rfl) Tryz.underlying216 Tryz.sizeOf282, ?_⟩
  intro k i0 z h1 h2 h3 h4
  exact { mixed := by kernel_rfl, t3 := Tryz.underlying3, t4 := Tryz.underlying4, t24 := Tryz.underlying216, i9 := h1, s9 := h2, z9 := h3, zs := h4, zero3 := Tryz.zeroValue3, zero4 := Tryz.zeroValue4, agg3 := Tryz.isAgg3, agg4 := Tryz.isAgg4, agg24 := Tryz.isAgg216, size3 := Tryz.sizeOf3, size4 := Tryz.sizeOf4, size24 := Tryz.sizeOf216 }
theorem Tryz.prim196 {ext : PT ExtK} {prim : PT PrimK} {sy : PT (List SE)} {G : GS} : PrimFits Tryz.prog (mkEnvS Tryz.prog ext prim sy) G 196 (.insert 216) :=
  ⟨⟨Tryz.f196, Tryz.func196, by kernel_rfl, by kernel_rfl⟩, fun args H v H' h => insert_ok (ρ := Tryz.r196) (mkEnvS_ty Tryz.prog ext prim sy) Tryz.ins196 h (by kernel_rfl) (by kernel_rfl)⟩
def Tryz.r199 : Ren := ⟨fun | 22 => 199 | 29 => 239 | 30 => 240 | n => n, fun | 24 => 219 | 9 => 291 | n => n, fun n => n⟩
theorem Tryz.ins199 : InsFn Tryz.prog Tryz.r199 Tryz.f199 := by
  refine ⟨Tryz.func199, by kernel_rfl, Tryz.ntmps199, by kernel_rfl, ov_of (P := Tryz.prog) (f := 239) Tryz.func239 (by kernel_rfl) (by kernel_rfl) (by kernel_rfl) (tS := 219) (tR := 4) (e := 291) (by kernel_rfl) Tryz.underlying219 Tryz.sizeOf291, ?_⟩
  intro k i0 z h1 h2 h3 h4
  exact { mixed := by kernel_rfl, t3 := Tryz.underlying3, t4 := Tryz.underlying4, t24 := Tryz.underlying219, i9 := h1, s9 := h2, z9 := h3, zs := h4, zero3 := Tryz.zeroValue3, zero4 := Tryz.zeroValue4, agg3 := Tryz.isAgg3, agg4 := Tryz.isAgg4, agg24 := Tryz.isAgg219, size3 := Tryz.sizeOf3, size4 := Tryz.sizeOf4, size24 := Tryz.sizeOf219 }
theorem Tryz.prim199 {ext : PT ExtK} {prim : PT PrimK} {sy : PT (List SE)} {G : GS} : PrimFits Tryz.prog (mkEnvS Tryz.prog ext prim sy) G 199 (.insert 219) :=
  ⟨⟨Tryz.f199, Tryz.func199, by kernel_rfl, by kernel_rfl⟩, fun args H v H' h => insert_ok (ρ := Tryz.r199) (mkEnvS_ty Tryz.prog ext prim sy) Tryz.ins199 h (by kernel_rfl) (by kernel_rfl)⟩
def Tryz.r201 : Ren := ⟨fun | 22 => 201 | 29 => 241 | 30 => 242 | n => n, fun | 24 => 149 | 9 => 188 | n => n, fun n => n⟩
theorem Tryz.ins201 : InsFn Tryz.prog Tryz.r201 Tryz.f201 := by
  refine ⟨Tryz.func201, by kernel_rfl, Tryz.ntmps201, by kernel_rfl, ov_of (P := Tryz.prog) (f := 241) Tryz.func241 (by kernel_rfl) (by kernel_rfl) (by kernel_rfl) (tS := 149) (tR := 4) (e := 188) (by kernel_rfl) Tryz.underlying149 Tryz.sizeOf188, ?_⟩
  intro k i0 z h1 h2 h3 h4
  exact { mixed := by kernel_rfl, t3 := Tryz.underlying3, t4 := Tryz.underlying4, t24 := Tryz.underlying149, i9 := h1, s9 := h2, z9 := h3, zs := h4, zero3 := Tryz.zeroValue3, zero4 := Tryz.zeroValue4, agg3 := Tryz.isAgg3, agg4 := Tryz.isAgg4, agg24 := Tryz.isAgg149, size3 := Tryz.sizeOf3, size4 := Tryz.sizeOf4, size24 := Tryz.sizeOf149 }
theorem Tryz.prim201 {ext : PT ExtK} {prim : PT PrimK} {sy : PT (List SE)} {G : GS} : PrimFits Tryz.prog (mkEnvS Tryz.prog ext prim sy) G 201 (.insert 149) :=
  ⟨⟨Tryz.f201, Tryz.func201, by kernel_rfl, by kernel_rfl⟩, fun args H v H' h => insert_ok (ρ := Tryz.r201) (mkEnvS_ty Tryz.prog ext prim sy) Tryz.ins201 h (by kernel_rfl) (by kernel_rfl)⟩
end
noncomputable section
theorem Tryz.sorts (m : Nat) : AnyZ.SortsIn Tryz.prog Tryz.sortedA_ren Fence.wide m :=
  ⟨fun blk off cap ss W hH hblk hsz => callsIn_wide.2 (AnyM.slices_Sort_string Tryz.sortA blk off cap ss W hH hblk hsz), fun p cap W => callsIn_wide.2 (AnyM.slices_Sort_string_none Tryz.sortA p cap W)⟩
theorem Tryz.srt213 : SrtFn Tryz.prog Tryz.keys213_ren Tryz.sortedA_ren :=
  ⟨{ Tryz.keys213 with }, Tryz.sortedA, Tryz.sorts, enters_of Tryz.func180 (by kernel_rfl) rfl, enters_of Tryz.func213 (by kernel_rfl) rfl, by kernel_rfl⟩
theorem Tryz.srt234 : SrtFn Tryz.prog Tryz.keys234_ren Tryz.sortedA_ren :=
  ⟨{ Tryz.keys234 with }, Tryz.sortedA, Tryz.sorts, enters_of Tryz.func180 (by kernel_rfl) rfl, enters_of Tryz.func234 (by kernel_rfl) rfl, by kernel_rfl⟩
theorem Tryz.prim166 {ext : PT ExtK} {prim : PT PrimK} {sy : PT (List SE)} {G : GS} : PrimFits Tryz.prog (mkEnvS Tryz.prog ext prim sy) G 166 (.sortedKeys 9 [213, 234]) :=
  ⟨⟨Tryz.f166, Tryz.func166, by kernel_rfl, by kernel_rfl⟩, fun args H v H' h => sorted_any (ρs := Tryz.sortedA_ren) (l := [Tryz.keys213_ren, Tryz.keys234_ren]) (by
    intro r hr
    simp only [List.mem_cons, List.mem_nil_iff, or_false] at hr
    rcases hr with rfl | rfl
    · exact Tryz.srt213
    · exact Tryz.srt234
    ) h⟩
def Tryz.primL : List (Nat × PrimK) := [(49, .insert 85), (194, .insert 213), (196, .insert 216), (199, .insert 219), (201, .insert 149), (166, .sortedKeys 9 [213, 234])]
theorem Tryz.primsOk {ext : PT ExtK} {prim : PT PrimK} {sy : PT (List SE)} {G : GS} : ∀ x ∈ Tryz.primL, PrimFits Tryz.prog (mkEnvS Tryz.prog ext prim sy) G x.1 x.2 := by
  intro x hx
  simp only [Tryz.primL, List.mem_cons, List.mem_nil_iff, or_false] at hx
  rcases hx with rfl | rfl | rfl | rfl | rfl | rfl
  · exact Tryz.prim49
  · exact Tryz.prim194
  · exact Tryz.prim196
  · exact Tryz.prim199
  · exact Tryz.prim201
  · exact Tryz.prim166
theorem Tryz.chk0 : (List.range' 0 60).all (chkF Tryz.prog) = true := by kernel_rfl
theorem Tryz.chk1 : (List.range' 60 60).all (chkF Tryz.prog) = true := by kernel_rfl
theorem Tryz.chk2 : (List.range' 120 60).all (chkF Tryz.prog) = true := by kernel_rfl
theorem Tryz.chk3 : (List.range' 180 60).all (chkF Tryz.prog) = true := by kernel_rfl
theorem Tryz.chk4 : (List.range' 240 60).all (chkF Tryz.prog) = true := by kernel_rfl
theorem Tryz.chk5 : (List.range' 300 60).all (chkF Tryz.prog) = true := by kernel_rfl
theorem Tryz.nfuncs : Tryz.prog.funcs.size = 348 := by kernel_rfl
theorem Tryz.nglob : Tryz.prog.globals.size = 8 := by kernel_rfl
theorem Tryz.chk : ∀ f, f < Tryz.prog.funcs.size → chkF Tryz.prog f = true := by
  intro f hf
  rw [Tryz.nfuncs] at hf
  by_cases h0 : f < 60
  · exact all_range Tryz.chk0 f (by omega) (by omega)
  by_cases h1 : f < 120
  · exact all_range Tryz.chk1 f (by omega) (by omega)
  by_cases h2 : f < 180
  · exact all_range Tryz.chk2 f (by omega) (by omega)
  by_cases h3 : f < 240
  · exact all_range Tryz.chk3 f (by omega) (by omega)
  by_cases h4 : f < 300
  · exact all_range Tryz.chk4 f (by omega) (by omega)
  exact all_range Tryz.chk5 f (by omega) (by omega)
def Tryz.gtL : List (Nat × List Value) := []
def Tryz.H0 : Heap := firstHeapT 8 Tryz.gsL Tryz.gtL
def Tryz.Gm (mu : Mu) : GS := initGSm 8 Tryz.H0 mu
def Tryz.Es (m : List (Nat × PrimK)) (sy : PT (List SE)) : Go.Vsx.Env := mkEnvS Tryz.prog Tryz.ext (ptOf (m ++ Tryz.primL)) sy
theorem Tryz.callOkS (m : List (Nat × PrimK)) (sy : PT (List SE)) (mu : Mu) (hm : ∀ x ∈ m, PrimFits Tryz.prog (Tryz.Es m sy) (Tryz.Gm mu) x.1 x.2) (hy : SymOk (Tryz.Es m sy) mu) (n : Nat) :
    CallOk Tryz.prog (Tryz.Gm mu) (callE (Tryz.Es m sy) (execC (Tryz.Es m sy) n)) :=
  Vsx.callOkS Tryz.nglob (by kernel_rfl) Tryz.extOk Tryz.chk (prim_of rfl fun x hx => (List.mem_append.1 hx).elim (hm x) (Tryz.primsOk x)) hy n
theorem Tryz.callOk (m : List (Nat × PrimK)) (hm : ∀ x ∈ m, PrimFits Tryz.prog (Tryz.Es m .leaf) (Tryz.Gm noMu) x.1 x.2) (n : Nat) :
    CallOk Tryz.prog (Tryz.Gm noMu) (callE (Tryz.Es m .leaf) (execC (Tryz.Es m .leaf) n)) := Tryz.callOkS m .leaf noMu hm (.none rfl) n
theorem Tryz.right (m : List (Nat × PrimK)) (sy : PT (List SE)) (mu : Mu) (W : World) (hm : ∀ x ∈ m, PrimFits Tryz.prog (Tryz.Es m sy) (Tryz.Gm mu) x.1 x.2) (hy : SymOk (Tryz.Es m sy) mu) :
    Right Tryz.prog (Tryz.Es m sy) (lawG 8 Tryz.H0 W mu) :=
  right_of Tryz.nglob (by kernel_rfl) Tryz.extOk Tryz.chk (prim_of rfl fun x hx => (List.mem_append.1 hx).elim (fun h => (hm x h).law) (Tryz.primsOk x)) hy
end

end Go.Proofs
