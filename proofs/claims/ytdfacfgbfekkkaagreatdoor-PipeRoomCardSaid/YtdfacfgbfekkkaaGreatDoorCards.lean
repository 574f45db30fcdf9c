/-
  DERIVED. GIVEN WITH THE SEED: THE CARDS: each row of YtdfacfgbfekkkaaGreatDoorRows.lean that lists a variable, with what it lists TIED to the program's text (the seventh form; the later family's looks); each row that meets fmt, with fmt's text TOLD by the authors' own Lean function (tested against real Go, not proved from fmt's source: count such statements apart). THE CARD IS WHAT COUNTS. Prove the row's statement (the work); the ties are given (YtdfacfgbfekkkaaGreatDoorTie.lean); close each card by the builder's one call (the guide's Derived/Test/ToyasCard.lean, 'card_holds'). Laid BY PROGRAM, IN A SANDBOX (cutbox-door.mjs). By AI agents, Wed Nov 11 2026. No macro, syntax, notation, axiom, sorry.
-/
import Derived.Test.YtdfacfgbfekkkaaGreatDoorRows
import GoSem.ClaimSeven
namespace Go.Proofs.YtdfacfgbfekkkaaGreatDoor
namespace Rows

/-- THE TIED CARD OF 'remembrancerlaw19.PipeRoom'. -/
def pipeRoomCard : Claim7 := { stood := { row := pipeRoomRow, standIns := [], harness := (true, "1ddd75a8136460b2c830d826cc768b367a7dc7626410c9d6f73d6f0dfa181c61"), looks := true }, kinds := [], alts := [], laidByText := true, laidKinds := [.data, .data, .data, .data, .sentinel, .sentinel, .pinned], laidTests := true, laidLooks := .later }
def PipeRoomCardSaid : Prop := Claim7.holds Tryz.pinned (.plain (OpenSpec.ofChange pipeRoomSpec)) pipeRoomCard

/-- THE SECOND FORM's CARD OF 'remembrancerlaw19.PipeRoom'. -/
def pipeRoomUptoCard : Claim7 := { stood := { row := pipeRoomUptoRow, standIns := [], harness := (true, "1ddd75a8136460b2c830d826cc768b367a7dc7626410c9d6f73d6f0dfa181c61"), looks := true }, kinds := [], alts := [], laidByText := true, laidKinds := [.data, .data, .data, .data, .sentinel, .sentinel, .pinned], laidTests := true, laidLooks := .later }
def PipeRoomUptoCardSaid : Prop := Claim7.holds Tryz.pinned (.plain (OpenSpec.upto pipeRoomSpec)) pipeRoomUptoCard
end Rows
end Go.Proofs.YtdfacfgbfekkkaaGreatDoor
