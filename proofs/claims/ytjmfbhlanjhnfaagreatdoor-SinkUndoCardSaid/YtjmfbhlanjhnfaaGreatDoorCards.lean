/-
  DERIVED. GIVEN WITH THE SEED: THE CARDS: each row of YtjmfbhlanjhnfaaGreatDoorRows.lean that lists a variable, with what it lists TIED to the program's text (the seventh form; the later family's looks); each row that meets fmt, with fmt's text TOLD by the authors' own Lean function (tested against real Go, not proved from fmt's source: count such statements apart). THE CARD IS WHAT COUNTS. Prove the row's statement (the work); the ties are given (YtjmfbhlanjhnfaaGreatDoorTie.lean); close each card by the builder's one call (the guide's Derived/Test/ToyasCard.lean, 'card_holds'). Laid BY PROGRAM, IN A SANDBOX (cutbox-door.mjs). By AI agents, Wed Nov 11 2026. No macro, syntax, notation, axiom, sorry.
-/
import Derived.Test.YtjmfbhlanjhnfaaGreatDoorRows
import GoSem.ClaimSeven
namespace Go.Proofs.YtjmfbhlanjhnfaaGreatDoor
namespace Rows

/-- THE TIED CARD OF 'remembrancerlaw19.TableBad'. -/
def tableBadCard : Claim7 := { stood := { row := tableBadRow, standIns := [], harness := (true, "f88995e9027d02e01017ecbeb5fa6395dd8ba0c818279cef34e9abfc20c8bb4d"), looks := true }, kinds := [], alts := [], laidByText := true, laidKinds := [.data, .data, .data, .data, .sentinel, .sentinel, .pinned], laidTests := true, laidLooks := .later }
def TableBadCardSaid : Prop := Claim7.holds Tryz.pinned (.plain (OpenSpec.ofChange tableBadSpec)) tableBadCard

/-- THE TIED CARD OF 'remembrancerlaw19.TableSet'. -/
def tableSetCard : Claim7 := { stood := { row := tableSetRow, standIns := [], harness := (true, "f88995e9027d02e01017ecbeb5fa6395dd8ba0c818279cef34e9abfc20c8bb4d"), looks := true }, kinds := [], alts := [], laidByText := true, laidKinds := [.data, .data, .data, .data, .sentinel, .sentinel, .pinned], laidTests := true, laidLooks := .later }
def TableSetCardSaid : Prop := Claim7.holds Tryz.pinned (.plain (OpenSpec.ofChange tableSetSpec)) tableSetCard

/-- THE TIED CARD OF 'remembrancerlaw19.SinkUndo'. -/
def sinkUndoCard : Claim7 := { stood := { row := sinkUndoRow, standIns := [], harness := (true, "f88995e9027d02e01017ecbeb5fa6395dd8ba0c818279cef34e9abfc20c8bb4d"), looks := true }, kinds := [], alts := [], laidByText := true, laidKinds := [.data, .data, .data, .data, .sentinel, .sentinel, .pinned], laidTests := true, laidLooks := .later }
def SinkUndoCardSaid : Prop := Claim7.holds Tryz.pinned (.plain (OpenSpec.ofChange sinkUndoSpec)) sinkUndoCard

/-- THE TIED CARD OF 'remembrancerlaw19.PipeAlign'. -/
def pipeAlignCard : Claim7 := { stood := { row := pipeAlignRow, standIns := [], harness := (true, "f88995e9027d02e01017ecbeb5fa6395dd8ba0c818279cef34e9abfc20c8bb4d"), looks := true }, kinds := [], alts := [], laidByText := true, laidKinds := [.data, .data, .data, .data, .sentinel, .sentinel, .pinned], laidTests := true, laidLooks := .later }
def PipeAlignCardSaid : Prop := Claim7.holds Tryz.pinned (.plain (OpenSpec.ofChange pipeAlignSpec)) pipeAlignCard

/-- THE TIED CARD OF 'remembrancerlaw19.TableFull'. -/
def tableFullCard : Claim7 := { stood := { row := tableFullRow, standIns := [], harness := (true, "f88995e9027d02e01017ecbeb5fa6395dd8ba0c818279cef34e9abfc20c8bb4d"), looks := true }, kinds := [], alts := [], laidByText := true, laidKinds := [.data, .data, .data, .data, .sentinel, .sentinel, .pinned], laidTests := true, laidLooks := .later }
def TableFullCardSaid : Prop := Claim7.holds Tryz.pinned (.plain (OpenSpec.ofChange tableFullSpec)) tableFullCard

/-- THE SECOND FORM's CARD OF 'remembrancerlaw19.TableBad'. -/
def tableBadUptoCard : Claim7 := { stood := { row := tableBadUptoRow, standIns := [], harness := (true, "f88995e9027d02e01017ecbeb5fa6395dd8ba0c818279cef34e9abfc20c8bb4d"), looks := true }, kinds := [], alts := [], laidByText := true, laidKinds := [.data, .data, .data, .data, .sentinel, .sentinel, .pinned], laidTests := true, laidLooks := .later }
def TableBadUptoCardSaid : Prop := Claim7.holds Tryz.pinned (.plain (OpenSpec.upto tableBadSpec)) tableBadUptoCard

/-- THE SECOND FORM's CARD OF 'remembrancerlaw19.TableSet'. -/
def tableSetUptoCard : Claim7 := { stood := { row := tableSetUptoRow, standIns := [], harness := (true, "f88995e9027d02e01017ecbeb5fa6395dd8ba0c818279cef34e9abfc20c8bb4d"), looks := true }, kinds := [], alts := [], laidByText := true, laidKinds := [.data, .data, .data, .data, .sentinel, .sentinel, .pinned], laidTests := true, laidLooks := .later }
def TableSetUptoCardSaid : Prop := Claim7.holds Tryz.pinned (.plain (OpenSpec.upto tableSetSpec)) tableSetUptoCard

/-- THE SECOND FORM's CARD OF 'remembrancerlaw19.SinkUndo'. -/
def sinkUndoUptoCard : Claim7 := { stood := { row := sinkUndoUptoRow, standIns := [], harness := (true, "f88995e9027d02e01017ecbeb5fa6395dd8ba0c818279cef34e9abfc20c8bb4d"), looks := true }, kinds := [], alts := [], laidByText := true, laidKinds := [.data, .data, .data, .data, .sentinel, .sentinel, .pinned], laidTests := true, laidLooks := .later }
def SinkUndoUptoCardSaid : Prop := Claim7.holds Tryz.pinned (.plain (OpenSpec.upto sinkUndoSpec)) sinkUndoUptoCard

/-- THE SECOND FORM's CARD OF 'remembrancerlaw19.PipeAlign'. -/
def pipeAlignUptoCard : Claim7 := { stood := { row := pipeAlignUptoRow, standIns := [], harness := (true, "f88995e9027d02e01017ecbeb5fa6395dd8ba0c818279cef34e9abfc20c8bb4d"), looks := true }, kinds := [], alts := [], laidByText := true, laidKinds := [.data, .data, .data, .data, .sentinel, .sentinel, .pinned], laidTests := true, laidLooks := .later }
def PipeAlignUptoCardSaid : Prop := Claim7.holds Tryz.pinned (.plain (OpenSpec.upto pipeAlignSpec)) pipeAlignUptoCard

/-- THE SECOND FORM's CARD OF 'remembrancerlaw19.TableFull'. -/
def tableFullUptoCard : Claim7 := { stood := { row := tableFullUptoRow, standIns := [], harness := (true, "f88995e9027d02e01017ecbeb5fa6395dd8ba0c818279cef34e9abfc20c8bb4d"), looks := true }, kinds := [], alts := [], laidByText := true, laidKinds := [.data, .data, .data, .data, .sentinel, .sentinel, .pinned], laidTests := true, laidLooks := .later }
def TableFullUptoCardSaid : Prop := Claim7.holds Tryz.pinned (.plain (OpenSpec.upto tableFullSpec)) tableFullUptoCard
end Rows
end Go.Proofs.YtjmfbhlanjhnfaaGreatDoor
