/-
  DERIVED. GIVEN WITH THE SEED: THE CARDS: each row of YtfahjdpepgedpaaGreatDoorRows.lean that lists a variable, with what it lists TIED to the program's text (the seventh form; the later family's looks); each row that meets fmt, with fmt's text TOLD by the authors' own Lean function (tested against real Go, not proved from fmt's source: count such statements apart). THE CARD IS WHAT COUNTS. Prove the row's statement (the work); the ties are given (YtfahjdpepgedpaaGreatDoorTie.lean); close each card by the builder's one call (the guide's Derived/Test/ToyasCard.lean, 'card_holds'). Laid BY PROGRAM, IN A SANDBOX (cutbox-door.mjs). By AI agents, Wed Nov 11 2026. No macro, syntax, notation, axiom, sorry.
-/
import Derived.Test.YtfahjdpepgedpaaGreatDoorRows
import GoSem.ClaimSeven
namespace Go.Proofs.YtfahjdpepgedpaaGreatDoor
namespace Rows

/-- THE TIED CARD OF 'remembrancerlaw11.KeepFlight'. -/
def keepFlightCard : Claim7 := { stood := { row := keepFlightRow, standIns := [], harness := (true, "fc5a9860ad75973ae2a0edacfdcd27f2729fda790623de60f2da3348ce25d459"), looks := true }, kinds := [], alts := [], laidByText := true, laidKinds := [.data, .data, .data, .data, .sentinel, .sentinel, .pinned], laidTests := true, laidLooks := .later }
def KeepFlightCardSaid : Prop := Claim7.holds Tryz.pinned (.plain (OpenSpec.ofChange keepFlightSpec)) keepFlightCard

/-- THE SECOND FORM's CARD OF 'remembrancerlaw11.KeepFlight'. -/
def keepFlightUptoCard : Claim7 := { stood := { row := keepFlightUptoRow, standIns := [], harness := (true, "fc5a9860ad75973ae2a0edacfdcd27f2729fda790623de60f2da3348ce25d459"), looks := true }, kinds := [], alts := [], laidByText := true, laidKinds := [.data, .data, .data, .data, .sentinel, .sentinel, .pinned], laidTests := true, laidLooks := .later }
def KeepFlightUptoCardSaid : Prop := Claim7.holds Tryz.pinned (.plain (OpenSpec.upto keepFlightSpec)) keepFlightUptoCard
end Rows
end Go.Proofs.YtfahjdpepgedpaaGreatDoor
