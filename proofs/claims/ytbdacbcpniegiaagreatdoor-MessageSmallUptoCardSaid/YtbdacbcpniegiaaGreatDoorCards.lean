/-
  DERIVED. GIVEN WITH THE SEED: THE CARDS: each row of YtbdacbcpniegiaaGreatDoorRows.lean that lists a variable, with what it lists TIED to the program's text (the seventh form; the later family's looks); each row that meets fmt, with fmt's text TOLD by the authors' own Lean function (tested against real Go, not proved from fmt's source: count such statements apart). THE CARD IS WHAT COUNTS. Prove the row's statement (the work); the ties are given (YtbdacbcpniegiaaGreatDoorTie.lean); close each card by the builder's one call (the guide's Derived/Test/ToyasCard.lean, 'card_holds'). Laid BY PROGRAM, IN A SANDBOX (cutbox-door.mjs). By AI agents, Wed Nov 11 2026. No macro, syntax, notation, axiom, sorry.
-/
import Derived.Test.YtbdacbcpniegiaaGreatDoorRows
import GoSem.ClaimSeven
namespace Go.Proofs.YtbdacbcpniegiaaGreatDoor
namespace Rows

/-- THE TIED CARD OF 'norialaw05.MessageReqs'. -/
def messageReqsCard : Claim7 := { stood := { row := messageReqsRow, standIns := [], harness := (true, "a48cd7c43592d4d6a8b338785a34a1ec818402e91d8fa209936584a5effb164d"), looks := true }, kinds := [], alts := [], laidByText := true, laidKinds := [.data, .sentinel, .sentinel, .sentinel, .sentinel, .pinned], laidTests := true, laidLooks := .later }
def MessageReqsCardSaid : Prop := Claim7.holds Tryz.pinned (.plain (OpenSpec.ofChange messageReqsSpec)) messageReqsCard

/-- THE TIED CARD OF 'norialaw05.MessageSmall'. -/
def messageSmallCard : Claim7 := { stood := { row := messageSmallRow, standIns := [], harness := (true, "a48cd7c43592d4d6a8b338785a34a1ec818402e91d8fa209936584a5effb164d"), looks := true }, kinds := [], alts := [], laidByText := true, laidKinds := [.data, .sentinel, .sentinel, .sentinel, .sentinel, .pinned], laidTests := true, laidLooks := .later }
def MessageSmallCardSaid : Prop := Claim7.holds Tryz.pinned (.plain (OpenSpec.ofChange messageSmallSpec)) messageSmallCard

/-- THE TIED CARD OF 'norialaw05.MessageResps'. -/
def messageRespsCard : Claim7 := { stood := { row := messageRespsRow, standIns := [], harness := (true, "a48cd7c43592d4d6a8b338785a34a1ec818402e91d8fa209936584a5effb164d"), looks := true }, kinds := [], alts := [], laidByText := true, laidKinds := [.data, .sentinel, .sentinel, .sentinel, .sentinel, .pinned], laidTests := true, laidLooks := .later }
def MessageRespsCardSaid : Prop := Claim7.holds Tryz.pinned (.plain (OpenSpec.ofChange messageRespsSpec)) messageRespsCard

/-- THE TIED CARD OF 'norialaw05.MessageCuts'. -/
def messageCutsCard : Claim7 := { stood := { row := messageCutsRow, standIns := [], harness := (true, "a48cd7c43592d4d6a8b338785a34a1ec818402e91d8fa209936584a5effb164d"), looks := true }, kinds := [], alts := [], laidByText := true, laidKinds := [.data, .sentinel, .sentinel, .sentinel, .sentinel, .pinned], laidTests := true, laidLooks := .later }
def MessageCutsCardSaid : Prop := Claim7.holds Tryz.pinned (.plain (OpenSpec.ofChange messageCutsSpec)) messageCutsCard

/-- THE TIED CARD OF 'norialaw05.MessageBack'. -/
def messageBackCard : Claim7 := { stood := { row := messageBackRow, standIns := [], harness := (true, "a48cd7c43592d4d6a8b338785a34a1ec818402e91d8fa209936584a5effb164d"), looks := true }, kinds := [], alts := [], laidByText := true, laidKinds := [.data, .sentinel, .sentinel, .sentinel, .sentinel, .pinned], laidTests := true, laidLooks := .later }
def MessageBackCardSaid : Prop := Claim7.holds Tryz.pinned (.plain (OpenSpec.ofChange messageBackSpec)) messageBackCard

/-- THE SECOND FORM's CARD OF 'norialaw05.MessageReqs'. -/
def messageReqsUptoCard : Claim7 := { stood := { row := messageReqsUptoRow, standIns := [], harness := (true, "a48cd7c43592d4d6a8b338785a34a1ec818402e91d8fa209936584a5effb164d"), looks := true }, kinds := [], alts := [], laidByText := true, laidKinds := [.data, .sentinel, .sentinel, .sentinel, .sentinel, .pinned], laidTests := true, laidLooks := .later }
def MessageReqsUptoCardSaid : Prop := Claim7.holds Tryz.pinned (.plain (OpenSpec.upto messageReqsSpec)) messageReqsUptoCard

/-- THE SECOND FORM's CARD OF 'norialaw05.MessageSmall'. -/
def messageSmallUptoCard : Claim7 := { stood := { row := messageSmallUptoRow, standIns := [], harness := (true, "a48cd7c43592d4d6a8b338785a34a1ec818402e91d8fa209936584a5effb164d"), looks := true }, kinds := [], alts := [], laidByText := true, laidKinds := [.data, .sentinel, .sentinel, .sentinel, .sentinel, .pinned], laidTests := true, laidLooks := .later }
def MessageSmallUptoCardSaid : Prop := Claim7.holds Tryz.pinned (.plain (OpenSpec.upto messageSmallSpec)) messageSmallUptoCard

/-- THE SECOND FORM's CARD OF 'norialaw05.MessageResps'. -/
def messageRespsUptoCard : Claim7 := { stood := { row := messageRespsUptoRow, standIns := [], harness := (true, "a48cd7c43592d4d6a8b338785a34a1ec818402e91d8fa209936584a5effb164d"), looks := true }, kinds := [], alts := [], laidByText := true, laidKinds := [.data, .sentinel, .sentinel, .sentinel, .sentinel, .pinned], laidTests := true, laidLooks := .later }
def MessageRespsUptoCardSaid : Prop := Claim7.holds Tryz.pinned (.plain (OpenSpec.upto messageRespsSpec)) messageRespsUptoCard

/-- THE SECOND FORM's CARD OF 'norialaw05.MessageCuts'. -/
def messageCutsUptoCard : Claim7 := { stood := { row := messageCutsUptoRow, standIns := [], harness := (true, "a48cd7c43592d4d6a8b338785a34a1ec818402e91d8fa209936584a5effb164d"), looks := true }, kinds := [], alts := [], laidByText := true, laidKinds := [.data, .sentinel, .sentinel, .sentinel, .sentinel, .pinned], laidTests := true, laidLooks := .later }
def MessageCutsUptoCardSaid : Prop := Claim7.holds Tryz.pinned (.plain (OpenSpec.upto messageCutsSpec)) messageCutsUptoCard

/-- THE SECOND FORM's CARD OF 'norialaw05.MessageBack'. -/
def messageBackUptoCard : Claim7 := { stood := { row := messageBackUptoRow, standIns := [], harness := (true, "a48cd7c43592d4d6a8b338785a34a1ec818402e91d8fa209936584a5effb164d"), looks := true }, kinds := [], alts := [], laidByText := true, laidKinds := [.data, .sentinel, .sentinel, .sentinel, .sentinel, .pinned], laidTests := true, laidLooks := .later }
def MessageBackUptoCardSaid : Prop := Claim7.holds Tryz.pinned (.plain (OpenSpec.upto messageBackSpec)) messageBackUptoCard
end Rows
end Go.Proofs.YtbdacbcpniegiaaGreatDoor
