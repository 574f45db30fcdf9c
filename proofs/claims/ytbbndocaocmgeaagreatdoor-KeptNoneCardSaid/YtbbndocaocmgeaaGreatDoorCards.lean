/-
  DERIVED. GIVEN WITH THE SEED: THE CARDS: each row of YtbbndocaocmgeaaGreatDoorRows.lean that lists a variable, with what it lists TIED to the program's text (the seventh form; the later family's looks); each row that meets fmt, with fmt's text TOLD by the authors' own Lean function (tested against real Go, not proved from fmt's source: count such statements apart). THE CARD IS WHAT COUNTS. Prove the row's statement (the work); the ties are given (YtbbndocaocmgeaaGreatDoorTie.lean); close each card by the builder's one call (the guide's Derived/Test/ToyasCard.lean, 'card_holds'). Laid BY PROGRAM, IN A SANDBOX (cutbox-door.mjs). By AI agents, Wed Nov 11 2026. No macro, syntax, notation, axiom, sorry.
-/
import Derived.Test.YtbbndocaocmgeaaGreatDoorRows
import GoSem.ClaimSeven
namespace Go.Proofs.YtbbndocaocmgeaaGreatDoor
namespace Rows

/-- THE TIED CARD OF 'remembrancerlaw11.KeptNone'. -/
def keptNoneCard : Claim7 := { stood := { row := keptNoneRow, standIns := [], harness := (true, "6ca4b78d9f88efba9804f6cb4da26a25339dd6386cb1cac84432385e776e295c"), looks := true }, kinds := [], alts := [], laidByText := true, laidKinds := [.data, .data, .data, .data, .sentinel, .sentinel, .pinned], laidTests := true, laidLooks := .later }
def KeptNoneCardSaid : Prop := Claim7.holds Tryz.pinned (.plain (OpenSpec.ofChange keptNoneSpec)) keptNoneCard

/-- THE SECOND FORM's CARD OF 'remembrancerlaw11.KeptNone'. -/
def keptNoneUptoCard : Claim7 := { stood := { row := keptNoneUptoRow, standIns := [], harness := (true, "6ca4b78d9f88efba9804f6cb4da26a25339dd6386cb1cac84432385e776e295c"), looks := true }, kinds := [], alts := [], laidByText := true, laidKinds := [.data, .data, .data, .data, .sentinel, .sentinel, .pinned], laidTests := true, laidLooks := .later }
def KeptNoneUptoCardSaid : Prop := Claim7.holds Tryz.pinned (.plain (OpenSpec.upto keptNoneSpec)) keptNoneUptoCard
end Rows
end Go.Proofs.YtbbndocaocmgeaaGreatDoor
