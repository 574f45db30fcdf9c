/-
  DERIVED. GIVEN WITH THE SEED: THE CARDS: each row of YtcmfeakcdikjmaaGreatDoorRows.lean that lists a variable, with what it lists TIED to the program's text (the seventh form; the later family's looks); each row that meets fmt, with fmt's text TOLD by the authors' own Lean function (tested against real Go, not proved from fmt's source: count such statements apart). THE CARD IS WHAT COUNTS. Prove the row's statement (the work); the ties are given (YtcmfeakcdikjmaaGreatDoorTie.lean); close each card by the builder's one call (the guide's Derived/Test/ToyasCard.lean, 'card_holds'). Laid BY PROGRAM, IN A SANDBOX (cutbox-door.mjs). By AI agents, Wed Nov 11 2026. No macro, syntax, notation, axiom, sorry.
-/
import Derived.Test.YtcmfeakcdikjmaaGreatDoorRows
import GoSem.ClaimSeven
namespace Go.Proofs.YtcmfeakcdikjmaaGreatDoor
namespace Rows

/-- THE TIED CARD OF 'remembrancerlaw19.SourceAll'. -/
def sourceAllCard : Claim7 := { stood := { row := sourceAllRow, standIns := [], harness := (true, "4e7b4c687bccaa8cd60434fd3dd49deee7be3151ba1531784cd7d02c650900de"), looks := true }, kinds := [], alts := [], laidByText := true, laidKinds := [.data, .data, .data, .data, .sentinel, .sentinel, .pinned], laidTests := true, laidLooks := .later }
def SourceAllCardSaid : Prop := Claim7.holds Tryz.pinned (.plain (OpenSpec.ofChange sourceAllSpec)) sourceAllCard

/-- THE SECOND FORM's CARD OF 'remembrancerlaw19.SourceAll'. -/
def sourceAllUptoCard : Claim7 := { stood := { row := sourceAllUptoRow, standIns := [], harness := (true, "4e7b4c687bccaa8cd60434fd3dd49deee7be3151ba1531784cd7d02c650900de"), looks := true }, kinds := [], alts := [], laidByText := true, laidKinds := [.data, .data, .data, .data, .sentinel, .sentinel, .pinned], laidTests := true, laidLooks := .later }
def SourceAllUptoCardSaid : Prop := Claim7.holds Tryz.pinned (.plain (OpenSpec.upto sourceAllSpec)) sourceAllUptoCard
end Rows
end Go.Proofs.YtcmfeakcdikjmaaGreatDoor
