/-
  DERIVED. GIVEN WITH THE SEED: THE CARDS: each row of YtekfgehpcakonaaGreatDoorRows.lean that lists a variable, with what it lists TIED to the program's text (the seventh form; the later family's looks); each row that meets fmt, with fmt's text TOLD by the authors' own Lean function (tested against real Go, not proved from fmt's source: count such statements apart). THE CARD IS WHAT COUNTS. Prove the row's statement (the work); the ties are given (YtekfgehpcakonaaGreatDoorTie.lean); close each card by the builder's one call (the guide's Derived/Test/ToyasCard.lean, 'card_holds'). Laid BY PROGRAM, IN A SANDBOX (cutbox-door.mjs). By AI agents, Wed Nov 11 2026. No macro, syntax, notation, axiom, sorry.
-/
import Derived.Test.YtekfgehpcakonaaGreatDoorRows
import GoSem.ClaimSeven
namespace Go.Proofs.YtekfgehpcakonaaGreatDoor
namespace Rows

/-- THE TIED CARD OF 'remembrancerlaw19.TableAdd'. -/
def tableAddCard : Claim7 := { stood := { row := tableAddRow, standIns := [], harness := (true, "77f1f22279c9ba0ba4ead9df8be7d3683d7d4bb624d03cd52bcd4663d5903bd6"), looks := true }, kinds := [], alts := [], laidByText := true, laidKinds := [.data, .data, .data, .data, .sentinel, .sentinel, .pinned], laidTests := true, laidLooks := .later }
def TableAddCardSaid : Prop := Claim7.holds Tryz.pinned (.plain (OpenSpec.ofChange tableAddSpec)) tableAddCard

/-- THE TIED CARD OF 'remembrancerlaw19.TableSet'. -/
def tableSetCard : Claim7 := { stood := { row := tableSetRow, standIns := [], harness := (true, "77f1f22279c9ba0ba4ead9df8be7d3683d7d4bb624d03cd52bcd4663d5903bd6"), looks := true }, kinds := [], alts := [], laidByText := true, laidKinds := [.data, .data, .data, .data, .sentinel, .sentinel, .pinned], laidTests := true, laidLooks := .later }
def TableSetCardSaid : Prop := Claim7.holds Tryz.pinned (.plain (OpenSpec.ofChange tableSetSpec)) tableSetCard

/-- THE TIED CARD OF 'remembrancerlaw19.PipeOrder'. -/
def pipeOrderCard : Claim7 := { stood := { row := pipeOrderRow, standIns := [], harness := (true, "77f1f22279c9ba0ba4ead9df8be7d3683d7d4bb624d03cd52bcd4663d5903bd6"), looks := true }, kinds := [], alts := [], laidByText := true, laidKinds := [.data, .data, .data, .data, .sentinel, .sentinel, .pinned], laidTests := true, laidLooks := .later }
def PipeOrderCardSaid : Prop := Claim7.holds Tryz.pinned (.plain (OpenSpec.ofChange pipeOrderSpec)) pipeOrderCard

/-- THE TIED CARD OF 'remembrancerlaw19.SourceOwn'. -/
def sourceOwnCard : Claim7 := { stood := { row := sourceOwnRow, standIns := [], harness := (true, "77f1f22279c9ba0ba4ead9df8be7d3683d7d4bb624d03cd52bcd4663d5903bd6"), looks := true }, kinds := [], alts := [], laidByText := true, laidKinds := [.data, .data, .data, .data, .sentinel, .sentinel, .pinned], laidTests := true, laidLooks := .later }
def SourceOwnCardSaid : Prop := Claim7.holds Tryz.pinned (.plain (OpenSpec.ofChange sourceOwnSpec)) sourceOwnCard

/-- THE TIED CARD OF 'remembrancerlaw19.SourceAgain'. -/
def sourceAgainCard : Claim7 := { stood := { row := sourceAgainRow, standIns := [], harness := (true, "77f1f22279c9ba0ba4ead9df8be7d3683d7d4bb624d03cd52bcd4663d5903bd6"), looks := true }, kinds := [], alts := [], laidByText := true, laidKinds := [.data, .data, .data, .data, .sentinel, .sentinel, .pinned], laidTests := true, laidLooks := .later }
def SourceAgainCardSaid : Prop := Claim7.holds Tryz.pinned (.plain (OpenSpec.ofChange sourceAgainSpec)) sourceAgainCard

/-- THE TIED CARD OF 'remembrancerlaw19.TableFull'. -/
def tableFullCard : Claim7 := { stood := { row := tableFullRow, standIns := [], harness := (true, "77f1f22279c9ba0ba4ead9df8be7d3683d7d4bb624d03cd52bcd4663d5903bd6"), looks := true }, kinds := [], alts := [], laidByText := true, laidKinds := [.data, .data, .data, .data, .sentinel, .sentinel, .pinned], laidTests := true, laidLooks := .later }
def TableFullCardSaid : Prop := Claim7.holds Tryz.pinned (.plain (OpenSpec.ofChange tableFullSpec)) tableFullCard

/-- THE SECOND FORM's CARD OF 'remembrancerlaw19.TableAdd'. -/
def tableAddUptoCard : Claim7 := { stood := { row := tableAddUptoRow, standIns := [], harness := (true, "77f1f22279c9ba0ba4ead9df8be7d3683d7d4bb624d03cd52bcd4663d5903bd6"), looks := true }, kinds := [], alts := [], laidByText := true, laidKinds := [.data, .data, .data, .data, .sentinel, .sentinel, .pinned], laidTests := true, laidLooks := .later }
def TableAddUptoCardSaid : Prop := Claim7.holds Tryz.pinned (.plain (OpenSpec.upto tableAddSpec)) tableAddUptoCard

/-- THE SECOND FORM's CARD OF 'remembrancerlaw19.TableSet'. -/
def tableSetUptoCard : Claim7 := { stood := { row := tableSetUptoRow, standIns := [], harness := (true, "77f1f22279c9ba0ba4ead9df8be7d3683d7d4bb624d03cd52bcd4663d5903bd6"), looks := true }, kinds := [], alts := [], laidByText := true, laidKinds := [.data, .data, .data, .data, .sentinel, .sentinel, .pinned], laidTests := true, laidLooks := .later }
def TableSetUptoCardSaid : Prop := Claim7.holds Tryz.pinned (.plain (OpenSpec.upto tableSetSpec)) tableSetUptoCard

/-- THE SECOND FORM's CARD OF 'remembrancerlaw19.PipeOrder'. -/
def pipeOrderUptoCard : Claim7 := { stood := { row := pipeOrderUptoRow, standIns := [], harness := (true, "77f1f22279c9ba0ba4ead9df8be7d3683d7d4bb624d03cd52bcd4663d5903bd6"), looks := true }, kinds := [], alts := [], laidByText := true, laidKinds := [.data, .data, .data, .data, .sentinel, .sentinel, .pinned], laidTests := true, laidLooks := .later }
def PipeOrderUptoCardSaid : Prop := Claim7.holds Tryz.pinned (.plain (OpenSpec.upto pipeOrderSpec)) pipeOrderUptoCard

/-- THE SECOND FORM's CARD OF 'remembrancerlaw19.SourceOwn'. -/
def sourceOwnUptoCard : Claim7 := { stood := { row := sourceOwnUptoRow, standIns := [], harness := (true, "77f1f22279c9ba0ba4ead9df8be7d3683d7d4bb624d03cd52bcd4663d5903bd6"), looks := true }, kinds := [], alts := [], laidByText := true, laidKinds := [.data, .data, .data, .data, .sentinel, .sentinel, .pinned], laidTests := true, laidLooks := .later }
def SourceOwnUptoCardSaid : Prop := Claim7.holds Tryz.pinned (.plain (OpenSpec.upto sourceOwnSpec)) sourceOwnUptoCard

/-- THE SECOND FORM's CARD OF 'remembrancerlaw19.SourceAgain'. -/
def sourceAgainUptoCard : Claim7 := { stood := { row := sourceAgainUptoRow, standIns := [], harness := (true, "77f1f22279c9ba0ba4ead9df8be7d3683d7d4bb624d03cd52bcd4663d5903bd6"), looks := true }, kinds := [], alts := [], laidByText := true, laidKinds := [.data, .data, .data, .data, .sentinel, .sentinel, .pinned], laidTests := true, laidLooks := .later }
def SourceAgainUptoCardSaid : Prop := Claim7.holds Tryz.pinned (.plain (OpenSpec.upto sourceAgainSpec)) sourceAgainUptoCard

/-- THE SECOND FORM's CARD OF 'remembrancerlaw19.TableFull'. -/
def tableFullUptoCard : Claim7 := { stood := { row := tableFullUptoRow, standIns := [], harness := (true, "77f1f22279c9ba0ba4ead9df8be7d3683d7d4bb624d03cd52bcd4663d5903bd6"), looks := true }, kinds := [], alts := [], laidByText := true, laidKinds := [.data, .data, .data, .data, .sentinel, .sentinel, .pinned], laidTests := true, laidLooks := .later }
def TableFullUptoCardSaid : Prop := Claim7.holds Tryz.pinned (.plain (OpenSpec.upto tableFullSpec)) tableFullUptoCard
end Rows
end Go.Proofs.YtekfgehpcakonaaGreatDoor
