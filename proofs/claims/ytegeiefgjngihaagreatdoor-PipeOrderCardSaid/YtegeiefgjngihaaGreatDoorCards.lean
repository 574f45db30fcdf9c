/-
  DERIVED. GIVEN WITH THE SEED: THE CARDS: each row of YtegeiefgjngihaaGreatDoorRows.lean that lists a variable, with what it lists TIED to the program's text (the seventh form; the later family's looks); each row that meets fmt, with fmt's text TOLD by the authors' own Lean function (tested against real Go, not proved from fmt's source: count such statements apart). THE CARD IS WHAT COUNTS. Prove the row's statement (the work); the ties are given (YtegeiefgjngihaaGreatDoorTie.lean); close each card by the builder's one call (the guide's Derived/Test/ToyasCard.lean, 'card_holds'). Laid BY PROGRAM, IN A SANDBOX (cutbox-door.mjs). By AI agents, Wed Nov 11 2026. No macro, syntax, notation, axiom, sorry.
-/
import Derived.Test.YtegeiefgjngihaaGreatDoorRows
import GoSem.ClaimSeven
namespace Go.Proofs.YtegeiefgjngihaaGreatDoor
namespace Rows

/-- THE TIED CARD OF 'remembrancerlaw19.SourceOwn'. -/
def sourceOwnCard : Claim7 := { stood := { row := sourceOwnRow, standIns := [], harness := (true, "6cde06d2bceaec5ef3cd5acca75eae9ce2964d7918294f22d86be2ca4e78fa8b"), looks := true }, kinds := [], alts := [], laidByText := true, laidKinds := [.data, .data, .data, .data, .sentinel, .sentinel, .pinned], laidTests := true, laidLooks := .later }
def SourceOwnCardSaid : Prop := Claim7.holds Tryz.pinned (.plain (OpenSpec.ofChange sourceOwnSpec)) sourceOwnCard

/-- THE TIED CARD OF 'remembrancerlaw19.PipeOrder'. -/
def pipeOrderCard : Claim7 := { stood := { row := pipeOrderRow, standIns := [], harness := (true, "6cde06d2bceaec5ef3cd5acca75eae9ce2964d7918294f22d86be2ca4e78fa8b"), looks := true }, kinds := [], alts := [], laidByText := true, laidKinds := [.data, .data, .data, .data, .sentinel, .sentinel, .pinned], laidTests := true, laidLooks := .later }
def PipeOrderCardSaid : Prop := Claim7.holds Tryz.pinned (.plain (OpenSpec.ofChange pipeOrderSpec)) pipeOrderCard

/-- THE TIED CARD OF 'remembrancerlaw19.TableDict'. -/
def tableDictCard : Claim7 := { stood := { row := tableDictRow, standIns := [], harness := (true, "6cde06d2bceaec5ef3cd5acca75eae9ce2964d7918294f22d86be2ca4e78fa8b"), looks := true }, kinds := [], alts := [], laidByText := true, laidKinds := [.data, .data, .data, .data, .sentinel, .sentinel, .pinned], laidTests := true, laidLooks := .later }
def TableDictCardSaid : Prop := Claim7.holds Tryz.pinned (.plain (OpenSpec.ofChange tableDictSpec)) tableDictCard

/-- THE TIED CARD OF 'remembrancerlaw19.SourceAgain'. -/
def sourceAgainCard : Claim7 := { stood := { row := sourceAgainRow, standIns := [], harness := (true, "6cde06d2bceaec5ef3cd5acca75eae9ce2964d7918294f22d86be2ca4e78fa8b"), looks := true }, kinds := [], alts := [], laidByText := true, laidKinds := [.data, .data, .data, .data, .sentinel, .sentinel, .pinned], laidTests := true, laidLooks := .later }
def SourceAgainCardSaid : Prop := Claim7.holds Tryz.pinned (.plain (OpenSpec.ofChange sourceAgainSpec)) sourceAgainCard

/-- THE SECOND FORM's CARD OF 'remembrancerlaw19.SourceOwn'. -/
def sourceOwnUptoCard : Claim7 := { stood := { row := sourceOwnUptoRow, standIns := [], harness := (true, "6cde06d2bceaec5ef3cd5acca75eae9ce2964d7918294f22d86be2ca4e78fa8b"), looks := true }, kinds := [], alts := [], laidByText := true, laidKinds := [.data, .data, .data, .data, .sentinel, .sentinel, .pinned], laidTests := true, laidLooks := .later }
def SourceOwnUptoCardSaid : Prop := Claim7.holds Tryz.pinned (.plain (OpenSpec.upto sourceOwnSpec)) sourceOwnUptoCard

/-- THE SECOND FORM's CARD OF 'remembrancerlaw19.PipeOrder'. -/
def pipeOrderUptoCard : Claim7 := { stood := { row := pipeOrderUptoRow, standIns := [], harness := (true, "6cde06d2bceaec5ef3cd5acca75eae9ce2964d7918294f22d86be2ca4e78fa8b"), looks := true }, kinds := [], alts := [], laidByText := true, laidKinds := [.data, .data, .data, .data, .sentinel, .sentinel, .pinned], laidTests := true, laidLooks := .later }
def PipeOrderUptoCardSaid : Prop := Claim7.holds Tryz.pinned (.plain (OpenSpec.upto pipeOrderSpec)) pipeOrderUptoCard

/-- THE SECOND FORM's CARD OF 'remembrancerlaw19.TableDict'. -/
def tableDictUptoCard : Claim7 := { stood := { row := tableDictUptoRow, standIns := [], harness := (true, "6cde06d2bceaec5ef3cd5acca75eae9ce2964d7918294f22d86be2ca4e78fa8b"), looks := true }, kinds := [], alts := [], laidByText := true, laidKinds := [.data, .data, .data, .data, .sentinel, .sentinel, .pinned], laidTests := true, laidLooks := .later }
def TableDictUptoCardSaid : Prop := Claim7.holds Tryz.pinned (.plain (OpenSpec.upto tableDictSpec)) tableDictUptoCard

/-- THE SECOND FORM's CARD OF 'remembrancerlaw19.SourceAgain'. -/
def sourceAgainUptoCard : Claim7 := { stood := { row := sourceAgainUptoRow, standIns := [], harness := (true, "6cde06d2bceaec5ef3cd5acca75eae9ce2964d7918294f22d86be2ca4e78fa8b"), looks := true }, kinds := [], alts := [], laidByText := true, laidKinds := [.data, .data, .data, .data, .sentinel, .sentinel, .pinned], laidTests := true, laidLooks := .later }
def SourceAgainUptoCardSaid : Prop := Claim7.holds Tryz.pinned (.plain (OpenSpec.upto sourceAgainSpec)) sourceAgainUptoCard
end Rows
end Go.Proofs.YtegeiefgjngihaaGreatDoor
