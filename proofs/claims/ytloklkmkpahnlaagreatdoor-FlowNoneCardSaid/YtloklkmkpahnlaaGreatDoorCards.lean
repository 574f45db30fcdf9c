/-
  DERIVED. GIVEN WITH THE SEED: THE CARDS: each row of YtloklkmkpahnlaaGreatDoorRows.lean that lists a variable, with what it lists TIED to the program's text (the seventh form; the later family's looks); each row that meets fmt, with fmt's text TOLD by the authors' own Lean function (tested against real Go, not proved from fmt's source: count such statements apart). THE CARD IS WHAT COUNTS. Prove the row's statement (the work); the ties are given (YtloklkmkpahnlaaGreatDoorTie.lean); close each card by the builder's one call (the guide's Derived/Test/ToyasCard.lean, 'card_holds'). Laid BY PROGRAM, IN A SANDBOX (cutbox-door.mjs). By AI agents, Wed Nov 11 2026. No macro, syntax, notation, axiom, sorry.
-/
import Derived.Test.YtloklkmkpahnlaaGreatDoorRows
import GoSem.ClaimSeven
namespace Go.Proofs.YtloklkmkpahnlaaGreatDoor
namespace Rows

/-- THE TIED CARD OF 'remembrancerlaw19.FlowNone'. -/
def flowNoneCard : Claim7 := { stood := { row := flowNoneRow, standIns := [], harness := (true, "1b4aeb19ede7f8dfeff3e50f0184a31602a506600feeaa257210bd8643ab43a3"), looks := true }, kinds := [], alts := [], laidByText := true, laidKinds := [.data, .data, .data, .data, .sentinel, .sentinel, .pinned], laidTests := true, laidLooks := .later }
def FlowNoneCardSaid : Prop := Claim7.holds Tryz.pinned (.plain (OpenSpec.ofChange flowNoneSpec)) flowNoneCard

/-- THE SECOND FORM's CARD OF 'remembrancerlaw19.FlowNone'. -/
def flowNoneUptoCard : Claim7 := { stood := { row := flowNoneUptoRow, standIns := [], harness := (true, "1b4aeb19ede7f8dfeff3e50f0184a31602a506600feeaa257210bd8643ab43a3"), looks := true }, kinds := [], alts := [], laidByText := true, laidKinds := [.data, .data, .data, .data, .sentinel, .sentinel, .pinned], laidTests := true, laidLooks := .later }
def FlowNoneUptoCardSaid : Prop := Claim7.holds Tryz.pinned (.plain (OpenSpec.upto flowNoneSpec)) flowNoneUptoCard
end Rows
end Go.Proofs.YtloklkmkpahnlaaGreatDoor
