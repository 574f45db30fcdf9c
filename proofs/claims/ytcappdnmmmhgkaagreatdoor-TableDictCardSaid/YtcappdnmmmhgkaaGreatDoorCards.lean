/-
  DERIVED. GIVEN WITH THE SEED: THE CARDS: each row of YtcappdnmmmhgkaaGreatDoorRows.lean that lists a variable, with what it lists TIED to the program's text (the seventh form; the later family's looks); each row that meets fmt, with fmt's text TOLD by the authors' own Lean function (tested against real Go, not proved from fmt's source: count such statements apart). THE CARD IS WHAT COUNTS. Prove the row's statement (the work); the ties are given (YtcappdnmmmhgkaaGreatDoorTie.lean); close each card by the builder's one call (the guide's Derived/Test/ToyasCard.lean, 'card_holds'). Laid BY PROGRAM, IN A SANDBOX (cutbox-door.mjs). By AI agents, Wed Nov 11 2026. No macro, syntax, notation, axiom, sorry.
-/
import Derived.Test.YtcappdnmmmhgkaaGreatDoorRows
import GoSem.ClaimSeven
namespace Go.Proofs.YtcappdnmmmhgkaaGreatDoor
namespace Rows

/-- THE TIED CARD OF 'remembrancerlaw19.TableDict'. -/
def tableDictCard : Claim7 := { stood := { row := tableDictRow, standIns := [], harness := (true, "87210d6b365b4baecc2c792fb391fe0e192b8167822dce4fdb34bf01f11094ce"), looks := true }, kinds := [], alts := [], laidByText := true, laidKinds := [.data, .data, .data, .data, .sentinel, .sentinel, .pinned], laidTests := true, laidLooks := .later }
def TableDictCardSaid : Prop := Claim7.holds Tryz.pinned (.plain (OpenSpec.ofChange tableDictSpec)) tableDictCard

/-- THE SECOND FORM's CARD OF 'remembrancerlaw19.TableDict'. -/
def tableDictUptoCard : Claim7 := { stood := { row := tableDictUptoRow, standIns := [], harness := (true, "87210d6b365b4baecc2c792fb391fe0e192b8167822dce4fdb34bf01f11094ce"), looks := true }, kinds := [], alts := [], laidByText := true, laidKinds := [.data, .data, .data, .data, .sentinel, .sentinel, .pinned], laidTests := true, laidLooks := .later }
def TableDictUptoCardSaid : Prop := Claim7.holds Tryz.pinned (.plain (OpenSpec.upto tableDictSpec)) tableDictUptoCard
end Rows
end Go.Proofs.YtcappdnmmmhgkaaGreatDoor
