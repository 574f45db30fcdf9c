/-
  DERIVED. GIVEN WITH THE SEED: THE CARDS: each row of YtpgpkplljkkakaaGreatDoorRows.lean that lists a variable, with what it lists TIED to the program's text (the seventh form; the later family's looks); each row that meets fmt, with fmt's text TOLD by the authors' own Lean function (tested against real Go, not proved from fmt's source: count such statements apart). THE CARD IS WHAT COUNTS. Prove the row's statement (the work); the ties are given (YtpgpkplljkkakaaGreatDoorTie.lean); close each card by the builder's one call (the guide's Derived/Test/ToyasCard.lean, 'card_holds'). Laid BY PROGRAM, IN A SANDBOX (cutbox-door.mjs). By AI agents, Wed Nov 11 2026. No macro, syntax, notation, axiom, sorry.
-/
import Derived.Test.YtpgpkplljkkakaaGreatDoorRows
import GoSem.ClaimSeven
namespace Go.Proofs.YtpgpkplljkkakaaGreatDoor
namespace Rows

/-- THE TIED CARD OF 'remembrancerlaw11.ManiNames'. -/
def maniNamesCard : Claim7 := { stood := { row := maniNamesRow, standIns := [], harness := (true, "cd2410fd01ec86336f096e202a946355dfb5fcef80c20f55917d63cdab3df912"), looks := true }, kinds := [], alts := [], laidByText := true, laidKinds := [.data, .data, .data, .data, .sentinel, .sentinel, .pinned], laidTests := true, laidLooks := .later }
def ManiNamesCardSaid : Prop := Claim7.holds Tryz.pinned (.plain (OpenSpec.ofChange maniNamesSpec)) maniNamesCard

/-- THE TIED CARD OF 'remembrancerlaw11.PlanOrder'. -/
def planOrderCard : Claim7 := { stood := { row := planOrderRow, standIns := [], harness := (true, "cd2410fd01ec86336f096e202a946355dfb5fcef80c20f55917d63cdab3df912"), looks := true }, kinds := [], alts := [], laidByText := true, laidKinds := [.data, .data, .data, .data, .sentinel, .sentinel, .pinned], laidTests := true, laidLooks := .later }
def PlanOrderCardSaid : Prop := Claim7.holds Tryz.pinned (.plain (OpenSpec.ofChange planOrderSpec)) planOrderCard

/-- THE TIED CARD OF 'remembrancerlaw11.PlanNames'. -/
def planNamesCard : Claim7 := { stood := { row := planNamesRow, standIns := [], harness := (true, "cd2410fd01ec86336f096e202a946355dfb5fcef80c20f55917d63cdab3df912"), looks := true }, kinds := [], alts := [], laidByText := true, laidKinds := [.data, .data, .data, .data, .sentinel, .sentinel, .pinned], laidTests := true, laidLooks := .later }
def PlanNamesCardSaid : Prop := Claim7.holds Tryz.pinned (.plain (OpenSpec.ofChange planNamesSpec)) planNamesCard

/-- THE SECOND FORM's CARD OF 'remembrancerlaw11.ManiNames'. -/
def maniNamesUptoCard : Claim7 := { stood := { row := maniNamesUptoRow, standIns := [], harness := (true, "cd2410fd01ec86336f096e202a946355dfb5fcef80c20f55917d63cdab3df912"), looks := true }, kinds := [], alts := [], laidByText := true, laidKinds := [.data, .data, .data, .data, .sentinel, .sentinel, .pinned], laidTests := true, laidLooks := .later }
def ManiNamesUptoCardSaid : Prop := Claim7.holds Tryz.pinned (.plain (OpenSpec.upto maniNamesSpec)) maniNamesUptoCard

/-- THE SECOND FORM's CARD OF 'remembrancerlaw11.PlanOrder'. -/
def planOrderUptoCard : Claim7 := { stood := { row := planOrderUptoRow, standIns := [], harness := (true, "cd2410fd01ec86336f096e202a946355dfb5fcef80c20f55917d63cdab3df912"), looks := true }, kinds := [], alts := [], laidByText := true, laidKinds := [.data, .data, .data, .data, .sentinel, .sentinel, .pinned], laidTests := true, laidLooks := .later }
def PlanOrderUptoCardSaid : Prop := Claim7.holds Tryz.pinned (.plain (OpenSpec.upto planOrderSpec)) planOrderUptoCard

/-- THE SECOND FORM's CARD OF 'remembrancerlaw11.PlanNames'. -/
def planNamesUptoCard : Claim7 := { stood := { row := planNamesUptoRow, standIns := [], harness := (true, "cd2410fd01ec86336f096e202a946355dfb5fcef80c20f55917d63cdab3df912"), looks := true }, kinds := [], alts := [], laidByText := true, laidKinds := [.data, .data, .data, .data, .sentinel, .sentinel, .pinned], laidTests := true, laidLooks := .later }
def PlanNamesUptoCardSaid : Prop := Claim7.holds Tryz.pinned (.plain (OpenSpec.upto planNamesSpec)) planNamesUptoCard
end Rows
end Go.Proofs.YtpgpkplljkkakaaGreatDoor
