/-
  DERIVED. GIVEN WITH THE SEED: THE CARDS: each row of YtjfjhmdhchjjdaaGreatDoorRows.lean that lists a variable, with what it lists TIED to the program's text (the seventh form; the later family's looks); each row that meets fmt, with fmt's text TOLD by the authors' own Lean function (tested against real Go, not proved from fmt's source: count such statements apart). THE CARD IS WHAT COUNTS. Prove the row's statement (the work); the ties are given (YtjfjhmdhchjjdaaGreatDoorTie.lean); close each card by the builder's one call (the guide's Derived/Test/ToyasCard.lean, 'card_holds'). Laid BY PROGRAM, IN A SANDBOX (cutbox-door.mjs). By AI agents, Wed Nov 11 2026. No macro, syntax, notation, axiom, sorry.
-/
import Derived.Test.YtjfjhmdhchjjdaaGreatDoorRows
import GoSem.ClaimSeven
namespace Go.Proofs.YtjfjhmdhchjjdaaGreatDoor
namespace Rows

/-- THE TIED CARD OF 'remembrancerlaw11.SegEnds'. -/
def segEndsCard : Claim7 := { stood := { row := segEndsRow, standIns := [], harness := (true, "f7bfd25fdd775d0723a8df143983a996014d21444bc859a5b4fe8ebe6e45e096"), looks := true }, kinds := [], alts := [], laidByText := true, laidKinds := [.data, .data, .data, .data, .sentinel, .sentinel, .pinned], laidTests := true, laidLooks := .later }
def SegEndsCardSaid : Prop := Claim7.holds Tryz.pinned (.plain (OpenSpec.ofChange segEndsSpec)) segEndsCard

/-- THE TIED CARD OF 'remembrancerlaw11.LogOver'. -/
def logOverCard : Claim7 := { stood := { row := logOverRow, standIns := [], harness := (true, "f7bfd25fdd775d0723a8df143983a996014d21444bc859a5b4fe8ebe6e45e096"), looks := true }, kinds := [], alts := [], laidByText := true, laidKinds := [.data, .data, .data, .data, .sentinel, .sentinel, .pinned], laidTests := true, laidLooks := .later }
def LogOverCardSaid : Prop := Claim7.holds Tryz.pinned (.plain (OpenSpec.ofChange logOverSpec)) logOverCard

/-- THE TIED CARD OF 'remembrancerlaw11.SendFull'. -/
def sendFullCard : Claim7 := { stood := { row := sendFullRow, standIns := [], harness := (true, "f7bfd25fdd775d0723a8df143983a996014d21444bc859a5b4fe8ebe6e45e096"), looks := true }, kinds := [], alts := [], laidByText := true, laidKinds := [.data, .data, .data, .data, .sentinel, .sentinel, .pinned], laidTests := true, laidLooks := .later }
def SendFullCardSaid : Prop := Claim7.holds Tryz.pinned (.plain (OpenSpec.ofChange sendFullSpec)) sendFullCard

/-- THE TIED CARD OF 'remembrancerlaw11.SendOrder'. -/
def sendOrderCard : Claim7 := { stood := { row := sendOrderRow, standIns := [], harness := (true, "f7bfd25fdd775d0723a8df143983a996014d21444bc859a5b4fe8ebe6e45e096"), looks := true }, kinds := [], alts := [], laidByText := true, laidKinds := [.data, .data, .data, .data, .sentinel, .sentinel, .pinned], laidTests := true, laidLooks := .later }
def SendOrderCardSaid : Prop := Claim7.holds Tryz.pinned (.plain (OpenSpec.ofChange sendOrderSpec)) sendOrderCard

/-- THE TIED CARD OF 'remembrancerlaw11.BaseNumbers'. -/
def baseNumbersCard : Claim7 := { stood := { row := baseNumbersRow, standIns := [], harness := (true, "f7bfd25fdd775d0723a8df143983a996014d21444bc859a5b4fe8ebe6e45e096"), looks := true }, kinds := [], alts := [], laidByText := true, laidKinds := [.data, .data, .data, .data, .sentinel, .sentinel, .pinned], laidTests := true, laidLooks := .later }
def BaseNumbersCardSaid : Prop := Claim7.holds Tryz.pinned (.plain (OpenSpec.ofChange baseNumbersSpec)) baseNumbersCard

/-- THE TIED CARD OF 'remembrancerlaw11.LogClose'. -/
def logCloseCard : Claim7 := { stood := { row := logCloseRow, standIns := [], harness := (true, "f7bfd25fdd775d0723a8df143983a996014d21444bc859a5b4fe8ebe6e45e096"), looks := true }, kinds := [], alts := [], laidByText := true, laidKinds := [.data, .data, .data, .data, .sentinel, .sentinel, .pinned], laidTests := true, laidLooks := .later }
def LogCloseCardSaid : Prop := Claim7.holds Tryz.pinned (.plain (OpenSpec.ofChange logCloseSpec)) logCloseCard

/-- THE SECOND FORM's CARD OF 'remembrancerlaw11.SegEnds'. -/
def segEndsUptoCard : Claim7 := { stood := { row := segEndsUptoRow, standIns := [], harness := (true, "f7bfd25fdd775d0723a8df143983a996014d21444bc859a5b4fe8ebe6e45e096"), looks := true }, kinds := [], alts := [], laidByText := true, laidKinds := [.data, .data, .data, .data, .sentinel, .sentinel, .pinned], laidTests := true, laidLooks := .later }
def SegEndsUptoCardSaid : Prop := Claim7.holds Tryz.pinned (.plain (OpenSpec.upto segEndsSpec)) segEndsUptoCard

/-- THE SECOND FORM's CARD OF 'remembrancerlaw11.LogOver'. -/
def logOverUptoCard : Claim7 := { stood := { row := logOverUptoRow, standIns := [], harness := (true, "f7bfd25fdd775d0723a8df143983a996014d21444bc859a5b4fe8ebe6e45e096"), looks := true }, kinds := [], alts := [], laidByText := true, laidKinds := [.data, .data, .data, .data, .sentinel, .sentinel, .pinned], laidTests := true, laidLooks := .later }
def LogOverUptoCardSaid : Prop := Claim7.holds Tryz.pinned (.plain (OpenSpec.upto logOverSpec)) logOverUptoCard

/-- THE SECOND FORM's CARD OF 'remembrancerlaw11.SendFull'. -/
def sendFullUptoCard : Claim7 := { stood := { row := sendFullUptoRow, standIns := [], harness := (true, "f7bfd25fdd775d0723a8df143983a996014d21444bc859a5b4fe8ebe6e45e096"), looks := true }, kinds := [], alts := [], laidByText := true, laidKinds := [.data, .data, .data, .data, .sentinel, .sentinel, .pinned], laidTests := true, laidLooks := .later }
def SendFullUptoCardSaid : Prop := Claim7.holds Tryz.pinned (.plain (OpenSpec.upto sendFullSpec)) sendFullUptoCard

/-- THE SECOND FORM's CARD OF 'remembrancerlaw11.SendOrder'. -/
def sendOrderUptoCard : Claim7 := { stood := { row := sendOrderUptoRow, standIns := [], harness := (true, "f7bfd25fdd775d0723a8df143983a996014d21444bc859a5b4fe8ebe6e45e096"), looks := true }, kinds := [], alts := [], laidByText := true, laidKinds := [.data, .data, .data, .data, .sentinel, .sentinel, .pinned], laidTests := true, laidLooks := .later }
def SendOrderUptoCardSaid : Prop := Claim7.holds Tryz.pinned (.plain (OpenSpec.upto sendOrderSpec)) sendOrderUptoCard

/-- THE SECOND FORM's CARD OF 'remembrancerlaw11.BaseNumbers'. -/
def baseNumbersUptoCard : Claim7 := { stood := { row := baseNumbersUptoRow, standIns := [], harness := (true, "f7bfd25fdd775d0723a8df143983a996014d21444bc859a5b4fe8ebe6e45e096"), looks := true }, kinds := [], alts := [], laidByText := true, laidKinds := [.data, .data, .data, .data, .sentinel, .sentinel, .pinned], laidTests := true, laidLooks := .later }
def BaseNumbersUptoCardSaid : Prop := Claim7.holds Tryz.pinned (.plain (OpenSpec.upto baseNumbersSpec)) baseNumbersUptoCard

/-- THE SECOND FORM's CARD OF 'remembrancerlaw11.LogClose'. -/
def logCloseUptoCard : Claim7 := { stood := { row := logCloseUptoRow, standIns := [], harness := (true, "f7bfd25fdd775d0723a8df143983a996014d21444bc859a5b4fe8ebe6e45e096"), looks := true }, kinds := [], alts := [], laidByText := true, laidKinds := [.data, .data, .data, .data, .sentinel, .sentinel, .pinned], laidTests := true, laidLooks := .later }
def LogCloseUptoCardSaid : Prop := Claim7.holds Tryz.pinned (.plain (OpenSpec.upto logCloseSpec)) logCloseUptoCard
end Rows
end Go.Proofs.YtjfjhmdhchjjdaaGreatDoor
