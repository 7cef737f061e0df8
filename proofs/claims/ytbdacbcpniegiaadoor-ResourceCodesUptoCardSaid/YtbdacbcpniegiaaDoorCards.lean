/-
  DERIVED. GIVEN WITH THE SEED: THE CARDS: each row of YtbdacbcpniegiaaDoorRows.lean that lists a variable, with what it lists TIED to the program's text (the seventh form; the later family's looks); each row that meets fmt, with fmt's text TOLD by the authors' own Lean function (tested against real Go, not proved from fmt's source: count such statements apart). THE CARD IS WHAT COUNTS. Prove the row's statement (the work); the ties are given (YtbdacbcpniegiaaDoorTie.lean); close each card by the builder's one call (the guide's Derived/Test/ToyasCard.lean, 'card_holds'). Laid BY PROGRAM, IN A SANDBOX (cutbox-door.mjs). By AI agents, Wed Nov 11 2026. No macro, syntax, notation, axiom, sorry.
-/
import Derived.Test.YtbdacbcpniegiaaDoorRows
import GoSem.ClaimSeven
namespace Go.Proofs.YtbdacbcpniegiaaDoor
namespace Rows

/-- THE TIED CARD OF 'norialaw05.MessageStatus'. -/
def messageStatusCard : Claim7 := { stood := { row := messageStatusRow, standIns := [], harness := (true, "dfb746609baa86b2149ace8677542b9023f7ae160e15fcb00de5ba72354af23a"), looks := true }, kinds := [], alts := [], laidByText := true, laidKinds := [.data, .sentinel, .sentinel, .sentinel, .sentinel, .pinned], laidTests := true, laidLooks := .later }
def MessageStatusCardSaid : Prop := Claim7.holds Tryd.pinned (.plain (OpenSpec.ofChange messageStatusSpec)) messageStatusCard

/-- THE TIED CARD OF 'norialaw05.MessagePings'. -/
def messagePingsCard : Claim7 := { stood := { row := messagePingsRow, standIns := [], harness := (true, "dfb746609baa86b2149ace8677542b9023f7ae160e15fcb00de5ba72354af23a"), looks := true }, kinds := [], alts := [], laidByText := true, laidKinds := [.data, .sentinel, .sentinel, .sentinel, .sentinel, .pinned], laidTests := true, laidLooks := .later }
def MessagePingsCardSaid : Prop := Claim7.holds Tryd.pinned (.plain (OpenSpec.ofChange messagePingsSpec)) messagePingsCard

/-- THE TIED CARD OF 'norialaw13.LedgerStays'. -/
def ledgerStaysCard : Claim7 := { stood := { row := ledgerStaysRow, standIns := [], harness := (true, "dfb746609baa86b2149ace8677542b9023f7ae160e15fcb00de5ba72354af23a"), looks := true }, kinds := [], alts := [], laidByText := true, laidKinds := [.data, .pinned], laidTests := true, laidLooks := .later }
def LedgerStaysCardSaid : Prop := Claim7.holds Tryd.pinned (.plain (OpenSpec.ofChange ledgerStaysSpec)) ledgerStaysCard

/-- THE TIED CARD OF 'norialaw13.LedgerRoom'. -/
def ledgerRoomCard : Claim7 := { stood := { row := ledgerRoomRow, standIns := [], harness := (true, "dfb746609baa86b2149ace8677542b9023f7ae160e15fcb00de5ba72354af23a"), looks := true }, kinds := [], alts := [], laidByText := true, laidKinds := [.data, .pinned], laidTests := true, laidLooks := .later }
def LedgerRoomCardSaid : Prop := Claim7.holds Tryd.pinned (.plain (OpenSpec.ofChange ledgerRoomSpec)) ledgerRoomCard

/-- THE TIED CARD OF 'norialaw13.LedgerKeys'. -/
def ledgerKeysCard : Claim7 := { stood := { row := ledgerKeysRow, standIns := [], harness := (true, "dfb746609baa86b2149ace8677542b9023f7ae160e15fcb00de5ba72354af23a"), looks := true }, kinds := [], alts := [], laidByText := true, laidKinds := [.data, .pinned], laidTests := true, laidLooks := .later }
def LedgerKeysCardSaid : Prop := Claim7.holds Tryd.pinned (.plain (OpenSpec.ofChange ledgerKeysSpec)) ledgerKeysCard

/-- THE TIED CARD OF 'norialaw13.LedgerPlays'. -/
def ledgerPlaysCard : Claim7 := { stood := { row := ledgerPlaysRow, standIns := [], harness := (true, "dfb746609baa86b2149ace8677542b9023f7ae160e15fcb00de5ba72354af23a"), looks := true }, kinds := [], alts := [], laidByText := true, laidKinds := [.data, .pinned], laidTests := true, laidLooks := .later }
def LedgerPlaysCardSaid : Prop := Claim7.holds Tryd.pinned (.plain (OpenSpec.ofChange ledgerPlaysSpec)) ledgerPlaysCard

/-- THE TIED CARD OF 'norialaw13.LedgerErases'. -/
def ledgerErasesCard : Claim7 := { stood := { row := ledgerErasesRow, standIns := [], harness := (true, "dfb746609baa86b2149ace8677542b9023f7ae160e15fcb00de5ba72354af23a"), looks := true }, kinds := [], alts := [], laidByText := true, laidKinds := [.data, .pinned], laidTests := true, laidLooks := .later }
def LedgerErasesCardSaid : Prop := Claim7.holds Tryd.pinned (.plain (OpenSpec.ofChange ledgerErasesSpec)) ledgerErasesCard

/-- THE TIED CARD OF 'norialaw05.MessageWrong'. -/
def messageWrongCard : Claim7 := { stood := { row := messageWrongRow, standIns := [], harness := (true, "dfb746609baa86b2149ace8677542b9023f7ae160e15fcb00de5ba72354af23a"), looks := true }, kinds := [], alts := [], laidByText := true, laidKinds := [.data, .sentinel, .sentinel, .sentinel, .sentinel, .pinned], laidTests := true, laidLooks := .later }
def MessageWrongCardSaid : Prop := Claim7.holds Tryd.pinned (.plain (OpenSpec.ofChange messageWrongSpec)) messageWrongCard

/-- THE TIED CARD OF 'norialaw04.ResourceCodes'. -/
def resourceCodesCard : Claim7 := { stood := { row := resourceCodesRow, standIns := [], harness := (true, "dfb746609baa86b2149ace8677542b9023f7ae160e15fcb00de5ba72354af23a"), looks := true }, kinds := [], alts := [], laidByText := true, laidKinds := [.data, .sentinel, .sentinel, .pinned], laidTests := true, laidLooks := .later }
def ResourceCodesCardSaid : Prop := Claim7.holds Tryd.pinned (.plain (OpenSpec.ofChange resourceCodesSpec)) resourceCodesCard

/-- THE TIED CARD OF 'norialaw04.ResourceBack'. -/
def resourceBackCard : Claim7 := { stood := { row := resourceBackRow, standIns := [], harness := (true, "dfb746609baa86b2149ace8677542b9023f7ae160e15fcb00de5ba72354af23a"), looks := true }, kinds := [], alts := [], laidByText := true, laidKinds := [.data, .sentinel, .sentinel, .pinned], laidTests := true, laidLooks := .later }
def ResourceBackCardSaid : Prop := Claim7.holds Tryd.pinned (.plain (OpenSpec.ofChange resourceBackSpec)) resourceBackCard

/-- THE TIED CARD OF 'norialaw04.ResourceSets'. -/
def resourceSetsCard : Claim7 := { stood := { row := resourceSetsRow, standIns := [], harness := (true, "dfb746609baa86b2149ace8677542b9023f7ae160e15fcb00de5ba72354af23a"), looks := true }, kinds := [], alts := [], laidByText := true, laidKinds := [.data, .sentinel, .sentinel, .pinned], laidTests := true, laidLooks := .later }
def ResourceSetsCardSaid : Prop := Claim7.holds Tryd.pinned (.plain (OpenSpec.ofChange resourceSetsSpec)) resourceSetsCard

/-- THE TIED CARD OF 'norialaw04.ResourceFields'. -/
def resourceFieldsCard : Claim7 := { stood := { row := resourceFieldsRow, standIns := [], harness := (true, "dfb746609baa86b2149ace8677542b9023f7ae160e15fcb00de5ba72354af23a"), looks := true }, kinds := [], alts := [], laidByText := true, laidKinds := [.data, .sentinel, .sentinel, .pinned], laidTests := true, laidLooks := .later }
def ResourceFieldsCardSaid : Prop := Claim7.holds Tryd.pinned (.plain (OpenSpec.ofChange resourceFieldsSpec)) resourceFieldsCard

/-- THE TIED CARD OF 'norialaw04.ResourceLists'. -/
def resourceListsCard : Claim7 := { stood := { row := resourceListsRow, standIns := [], harness := (true, "dfb746609baa86b2149ace8677542b9023f7ae160e15fcb00de5ba72354af23a"), looks := true }, kinds := [], alts := [], laidByText := true, laidKinds := [.data, .sentinel, .sentinel, .pinned], laidTests := true, laidLooks := .later }
def ResourceListsCardSaid : Prop := Claim7.holds Tryd.pinned (.plain (OpenSpec.ofChange resourceListsSpec)) resourceListsCard

/-- THE TIED CARD OF 'norialaw04.ResourceSorted'. -/
def resourceSortedCard : Claim7 := { stood := { row := resourceSortedRow, standIns := [], harness := (true, "dfb746609baa86b2149ace8677542b9023f7ae160e15fcb00de5ba72354af23a"), looks := true }, kinds := [], alts := [], laidByText := true, laidKinds := [.data, .sentinel, .sentinel, .pinned], laidTests := true, laidLooks := .later }
def ResourceSortedCardSaid : Prop := Claim7.holds Tryd.pinned (.plain (OpenSpec.ofChange resourceSortedSpec)) resourceSortedCard

/-- THE SECOND FORM's CARD OF 'norialaw05.MessageStatus'. -/
def messageStatusUptoCard : Claim7 := { stood := { row := messageStatusUptoRow, standIns := [], harness := (true, "dfb746609baa86b2149ace8677542b9023f7ae160e15fcb00de5ba72354af23a"), looks := true }, kinds := [], alts := [], laidByText := true, laidKinds := [.data, .sentinel, .sentinel, .sentinel, .sentinel, .pinned], laidTests := true, laidLooks := .later }
def MessageStatusUptoCardSaid : Prop := Claim7.holds Tryd.pinned (.plain (OpenSpec.upto messageStatusSpec)) messageStatusUptoCard

/-- THE SECOND FORM's CARD OF 'norialaw05.MessagePings'. -/
def messagePingsUptoCard : Claim7 := { stood := { row := messagePingsUptoRow, standIns := [], harness := (true, "dfb746609baa86b2149ace8677542b9023f7ae160e15fcb00de5ba72354af23a"), looks := true }, kinds := [], alts := [], laidByText := true, laidKinds := [.data, .sentinel, .sentinel, .sentinel, .sentinel, .pinned], laidTests := true, laidLooks := .later }
def MessagePingsUptoCardSaid : Prop := Claim7.holds Tryd.pinned (.plain (OpenSpec.upto messagePingsSpec)) messagePingsUptoCard

/-- THE SECOND FORM's CARD OF 'norialaw13.LedgerStays'. -/
def ledgerStaysUptoCard : Claim7 := { stood := { row := ledgerStaysUptoRow, standIns := [], harness := (true, "dfb746609baa86b2149ace8677542b9023f7ae160e15fcb00de5ba72354af23a"), looks := true }, kinds := [], alts := [], laidByText := true, laidKinds := [.data, .pinned], laidTests := true, laidLooks := .later }
def LedgerStaysUptoCardSaid : Prop := Claim7.holds Tryd.pinned (.plain (OpenSpec.upto ledgerStaysSpec)) ledgerStaysUptoCard

/-- THE SECOND FORM's CARD OF 'norialaw13.LedgerRoom'. -/
def ledgerRoomUptoCard : Claim7 := { stood := { row := ledgerRoomUptoRow, standIns := [], harness := (true, "dfb746609baa86b2149ace8677542b9023f7ae160e15fcb00de5ba72354af23a"), looks := true }, kinds := [], alts := [], laidByText := true, laidKinds := [.data, .pinned], laidTests := true, laidLooks := .later }
def LedgerRoomUptoCardSaid : Prop := Claim7.holds Tryd.pinned (.plain (OpenSpec.upto ledgerRoomSpec)) ledgerRoomUptoCard

/-- THE SECOND FORM's CARD OF 'norialaw13.LedgerKeys'. -/
def ledgerKeysUptoCard : Claim7 := { stood := { row := ledgerKeysUptoRow, standIns := [], harness := (true, "dfb746609baa86b2149ace8677542b9023f7ae160e15fcb00de5ba72354af23a"), looks := true }, kinds := [], alts := [], laidByText := true, laidKinds := [.data, .pinned], laidTests := true, laidLooks := .later }
def LedgerKeysUptoCardSaid : Prop := Claim7.holds Tryd.pinned (.plain (OpenSpec.upto ledgerKeysSpec)) ledgerKeysUptoCard

/-- THE SECOND FORM's CARD OF 'norialaw13.LedgerPlays'. -/
def ledgerPlaysUptoCard : Claim7 := { stood := { row := ledgerPlaysUptoRow, standIns := [], harness := (true, "dfb746609baa86b2149ace8677542b9023f7ae160e15fcb00de5ba72354af23a"), looks := true }, kinds := [], alts := [], laidByText := true, laidKinds := [.data, .pinned], laidTests := true, laidLooks := .later }
def LedgerPlaysUptoCardSaid : Prop := Claim7.holds Tryd.pinned (.plain (OpenSpec.upto ledgerPlaysSpec)) ledgerPlaysUptoCard

/-- THE SECOND FORM's CARD OF 'norialaw13.LedgerErases'. -/
def ledgerErasesUptoCard : Claim7 := { stood := { row := ledgerErasesUptoRow, standIns := [], harness := (true, "dfb746609baa86b2149ace8677542b9023f7ae160e15fcb00de5ba72354af23a"), looks := true }, kinds := [], alts := [], laidByText := true, laidKinds := [.data, .pinned], laidTests := true, laidLooks := .later }
def LedgerErasesUptoCardSaid : Prop := Claim7.holds Tryd.pinned (.plain (OpenSpec.upto ledgerErasesSpec)) ledgerErasesUptoCard

/-- THE SECOND FORM's CARD OF 'norialaw05.MessageWrong'. -/
def messageWrongUptoCard : Claim7 := { stood := { row := messageWrongUptoRow, standIns := [], harness := (true, "dfb746609baa86b2149ace8677542b9023f7ae160e15fcb00de5ba72354af23a"), looks := true }, kinds := [], alts := [], laidByText := true, laidKinds := [.data, .sentinel, .sentinel, .sentinel, .sentinel, .pinned], laidTests := true, laidLooks := .later }
def MessageWrongUptoCardSaid : Prop := Claim7.holds Tryd.pinned (.plain (OpenSpec.upto messageWrongSpec)) messageWrongUptoCard

/-- THE SECOND FORM's CARD OF 'norialaw04.ResourceCodes'. -/
def resourceCodesUptoCard : Claim7 := { stood := { row := resourceCodesUptoRow, standIns := [], harness := (true, "dfb746609baa86b2149ace8677542b9023f7ae160e15fcb00de5ba72354af23a"), looks := true }, kinds := [], alts := [], laidByText := true, laidKinds := [.data, .sentinel, .sentinel, .pinned], laidTests := true, laidLooks := .later }
def ResourceCodesUptoCardSaid : Prop := Claim7.holds Tryd.pinned (.plain (OpenSpec.upto resourceCodesSpec)) resourceCodesUptoCard

/-- THE SECOND FORM's CARD OF 'norialaw04.ResourceBack'. -/
def resourceBackUptoCard : Claim7 := { stood := { row := resourceBackUptoRow, standIns := [], harness := (true, "dfb746609baa86b2149ace8677542b9023f7ae160e15fcb00de5ba72354af23a"), looks := true }, kinds := [], alts := [], laidByText := true, laidKinds := [.data, .sentinel, .sentinel, .pinned], laidTests := true, laidLooks := .later }
def ResourceBackUptoCardSaid : Prop := Claim7.holds Tryd.pinned (.plain (OpenSpec.upto resourceBackSpec)) resourceBackUptoCard

/-- THE SECOND FORM's CARD OF 'norialaw04.ResourceSets'. -/
def resourceSetsUptoCard : Claim7 := { stood := { row := resourceSetsUptoRow, standIns := [], harness := (true, "dfb746609baa86b2149ace8677542b9023f7ae160e15fcb00de5ba72354af23a"), looks := true }, kinds := [], alts := [], laidByText := true, laidKinds := [.data, .sentinel, .sentinel, .pinned], laidTests := true, laidLooks := .later }
def ResourceSetsUptoCardSaid : Prop := Claim7.holds Tryd.pinned (.plain (OpenSpec.upto resourceSetsSpec)) resourceSetsUptoCard

/-- THE SECOND FORM's CARD OF 'norialaw04.ResourceFields'. -/
def resourceFieldsUptoCard : Claim7 := { stood := { row := resourceFieldsUptoRow, standIns := [], harness := (true, "dfb746609baa86b2149ace8677542b9023f7ae160e15fcb00de5ba72354af23a"), looks := true }, kinds := [], alts := [], laidByText := true, laidKinds := [.data, .sentinel, .sentinel, .pinned], laidTests := true, laidLooks := .later }
def ResourceFieldsUptoCardSaid : Prop := Claim7.holds Tryd.pinned (.plain (OpenSpec.upto resourceFieldsSpec)) resourceFieldsUptoCard

/-- THE SECOND FORM's CARD OF 'norialaw04.ResourceLists'. -/
def resourceListsUptoCard : Claim7 := { stood := { row := resourceListsUptoRow, standIns := [], harness := (true, "dfb746609baa86b2149ace8677542b9023f7ae160e15fcb00de5ba72354af23a"), looks := true }, kinds := [], alts := [], laidByText := true, laidKinds := [.data, .sentinel, .sentinel, .pinned], laidTests := true, laidLooks := .later }
def ResourceListsUptoCardSaid : Prop := Claim7.holds Tryd.pinned (.plain (OpenSpec.upto resourceListsSpec)) resourceListsUptoCard

/-- THE SECOND FORM's CARD OF 'norialaw04.ResourceSorted'. -/
def resourceSortedUptoCard : Claim7 := { stood := { row := resourceSortedUptoRow, standIns := [], harness := (true, "dfb746609baa86b2149ace8677542b9023f7ae160e15fcb00de5ba72354af23a"), looks := true }, kinds := [], alts := [], laidByText := true, laidKinds := [.data, .sentinel, .sentinel, .pinned], laidTests := true, laidLooks := .later }
def ResourceSortedUptoCardSaid : Prop := Claim7.holds Tryd.pinned (.plain (OpenSpec.upto resourceSortedSpec)) resourceSortedUptoCard
end Rows
end Go.Proofs.YtbdacbcpniegiaaDoor
