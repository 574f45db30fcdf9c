/-
  DERIVED. GIVEN WITH THE SEED: THE CARDS: each row of YtcobhgpjdlgckaaGreatDoorRows.lean that lists a variable, with what it lists TIED to the program's text (the seventh form; the later family's looks); each row that meets fmt, with fmt's text TOLD by the authors' own Lean function (tested against real Go, not proved from fmt's source: count such statements apart). THE CARD IS WHAT COUNTS. Prove the row's statement (the work); the ties are given (YtcobhgpjdlgckaaGreatDoorTie.lean); close each card by the builder's one call (the guide's Derived/Test/ToyasCard.lean, 'card_holds'). Laid BY PROGRAM, IN A SANDBOX (cutbox-door.mjs). By AI agents, Wed Nov 11 2026. No macro, syntax, notation, axiom, sorry.
-/
import Derived.Test.YtcobhgpjdlgckaaGreatDoorRows
import GoSem.ClaimSeven
namespace Go.Proofs.YtcobhgpjdlgckaaGreatDoor
namespace Rows

/-- THE TIED CARD OF 'remembrancerlaw19.ChiefOne'. -/
def chiefOneCard : Claim7 := { stood := { row := chiefOneRow, standIns := [], harness := (true, "0d1ca2e5bef38cfdb180b36a4fe34262b43cbd571c4c4119a82a9a6803172c7d"), looks := true }, kinds := [], alts := [], laidByText := true, laidKinds := [.data, .data, .data, .data, .sentinel, .sentinel, .pinned], laidTests := true, laidLooks := .later }
def ChiefOneCardSaid : Prop := Claim7.holds Tryz.pinned (.plain (OpenSpec.ofChange chiefOneSpec)) chiefOneCard

/-- THE TIED CARD OF 'remembrancerlaw19.TableBad'. -/
def tableBadCard : Claim7 := { stood := { row := tableBadRow, standIns := [], harness := (true, "0d1ca2e5bef38cfdb180b36a4fe34262b43cbd571c4c4119a82a9a6803172c7d"), looks := true }, kinds := [], alts := [], laidByText := true, laidKinds := [.data, .data, .data, .data, .sentinel, .sentinel, .pinned], laidTests := true, laidLooks := .later }
def TableBadCardSaid : Prop := Claim7.holds Tryz.pinned (.plain (OpenSpec.ofChange tableBadSpec)) tableBadCard

/-- THE TIED CARD OF 'remembrancerlaw19.SinkOwn'. -/
def sinkOwnCard : Claim7 := { stood := { row := sinkOwnRow, standIns := [], harness := (true, "0d1ca2e5bef38cfdb180b36a4fe34262b43cbd571c4c4119a82a9a6803172c7d"), looks := true }, kinds := [], alts := [], laidByText := true, laidKinds := [.data, .data, .data, .data, .sentinel, .sentinel, .pinned], laidTests := true, laidLooks := .later }
def SinkOwnCardSaid : Prop := Claim7.holds Tryz.pinned (.plain (OpenSpec.ofChange sinkOwnSpec)) sinkOwnCard

/-- THE TIED CARD OF 'remembrancerlaw19.SinkUndo'. -/
def sinkUndoCard : Claim7 := { stood := { row := sinkUndoRow, standIns := [], harness := (true, "0d1ca2e5bef38cfdb180b36a4fe34262b43cbd571c4c4119a82a9a6803172c7d"), looks := true }, kinds := [], alts := [], laidByText := true, laidKinds := [.data, .data, .data, .data, .sentinel, .sentinel, .pinned], laidTests := true, laidLooks := .later }
def SinkUndoCardSaid : Prop := Claim7.holds Tryz.pinned (.plain (OpenSpec.ofChange sinkUndoSpec)) sinkUndoCard

/-- THE TIED CARD OF 'remembrancerlaw19.SinkTwice'. -/
def sinkTwiceCard : Claim7 := { stood := { row := sinkTwiceRow, standIns := [], harness := (true, "0d1ca2e5bef38cfdb180b36a4fe34262b43cbd571c4c4119a82a9a6803172c7d"), looks := true }, kinds := [], alts := [], laidByText := true, laidKinds := [.data, .data, .data, .data, .sentinel, .sentinel, .pinned], laidTests := true, laidLooks := .later }
def SinkTwiceCardSaid : Prop := Claim7.holds Tryz.pinned (.plain (OpenSpec.ofChange sinkTwiceSpec)) sinkTwiceCard

/-- THE TIED CARD OF 'remembrancerlaw19.PipeAlign'. -/
def pipeAlignCard : Claim7 := { stood := { row := pipeAlignRow, standIns := [], harness := (true, "0d1ca2e5bef38cfdb180b36a4fe34262b43cbd571c4c4119a82a9a6803172c7d"), looks := true }, kinds := [], alts := [], laidByText := true, laidKinds := [.data, .data, .data, .data, .sentinel, .sentinel, .pinned], laidTests := true, laidLooks := .later }
def PipeAlignCardSaid : Prop := Claim7.holds Tryz.pinned (.plain (OpenSpec.ofChange pipeAlignSpec)) pipeAlignCard

/-- THE SECOND FORM's CARD OF 'remembrancerlaw19.ChiefOne'. -/
def chiefOneUptoCard : Claim7 := { stood := { row := chiefOneUptoRow, standIns := [], harness := (true, "0d1ca2e5bef38cfdb180b36a4fe34262b43cbd571c4c4119a82a9a6803172c7d"), looks := true }, kinds := [], alts := [], laidByText := true, laidKinds := [.data, .data, .data, .data, .sentinel, .sentinel, .pinned], laidTests := true, laidLooks := .later }
def ChiefOneUptoCardSaid : Prop := Claim7.holds Tryz.pinned (.plain (OpenSpec.upto chiefOneSpec)) chiefOneUptoCard

/-- THE SECOND FORM's CARD OF 'remembrancerlaw19.TableBad'. -/
def tableBadUptoCard : Claim7 := { stood := { row := tableBadUptoRow, standIns := [], harness := (true, "0d1ca2e5bef38cfdb180b36a4fe34262b43cbd571c4c4119a82a9a6803172c7d"), looks := true }, kinds := [], alts := [], laidByText := true, laidKinds := [.data, .data, .data, .data, .sentinel, .sentinel, .pinned], laidTests := true, laidLooks := .later }
def TableBadUptoCardSaid : Prop := Claim7.holds Tryz.pinned (.plain (OpenSpec.upto tableBadSpec)) tableBadUptoCard

/-- THE SECOND FORM's CARD OF 'remembrancerlaw19.SinkOwn'. -/
def sinkOwnUptoCard : Claim7 := { stood := { row := sinkOwnUptoRow, standIns := [], harness := (true, "0d1ca2e5bef38cfdb180b36a4fe34262b43cbd571c4c4119a82a9a6803172c7d"), looks := true }, kinds := [], alts := [], laidByText := true, laidKinds := [.data, .data, .data, .data, .sentinel, .sentinel, .pinned], laidTests := true, laidLooks := .later }
def SinkOwnUptoCardSaid : Prop := Claim7.holds Tryz.pinned (.plain (OpenSpec.upto sinkOwnSpec)) sinkOwnUptoCard

/-- THE SECOND FORM's CARD OF 'remembrancerlaw19.SinkUndo'. -/
def sinkUndoUptoCard : Claim7 := { stood := { row := sinkUndoUptoRow, standIns := [], harness := (true, "0d1ca2e5bef38cfdb180b36a4fe34262b43cbd571c4c4119a82a9a6803172c7d"), looks := true }, kinds := [], alts := [], laidByText := true, laidKinds := [.data, .data, .data, .data, .sentinel, .sentinel, .pinned], laidTests := true, laidLooks := .later }
def SinkUndoUptoCardSaid : Prop := Claim7.holds Tryz.pinned (.plain (OpenSpec.upto sinkUndoSpec)) sinkUndoUptoCard

/-- THE SECOND FORM's CARD OF 'remembrancerlaw19.SinkTwice'. -/
def sinkTwiceUptoCard : Claim7 := { stood := { row := sinkTwiceUptoRow, standIns := [], harness := (true, "0d1ca2e5bef38cfdb180b36a4fe34262b43cbd571c4c4119a82a9a6803172c7d"), looks := true }, kinds := [], alts := [], laidByText := true, laidKinds := [.data, .data, .data, .data, .sentinel, .sentinel, .pinned], laidTests := true, laidLooks := .later }
def SinkTwiceUptoCardSaid : Prop := Claim7.holds Tryz.pinned (.plain (OpenSpec.upto sinkTwiceSpec)) sinkTwiceUptoCard

/-- THE SECOND FORM's CARD OF 'remembrancerlaw19.PipeAlign'. -/
def pipeAlignUptoCard : Claim7 := { stood := { row := pipeAlignUptoRow, standIns := [], harness := (true, "0d1ca2e5bef38cfdb180b36a4fe34262b43cbd571c4c4119a82a9a6803172c7d"), looks := true }, kinds := [], alts := [], laidByText := true, laidKinds := [.data, .data, .data, .data, .sentinel, .sentinel, .pinned], laidTests := true, laidLooks := .later }
def PipeAlignUptoCardSaid : Prop := Claim7.holds Tryz.pinned (.plain (OpenSpec.upto pipeAlignSpec)) pipeAlignUptoCard
end Rows
end Go.Proofs.YtcobhgpjdlgckaaGreatDoor
