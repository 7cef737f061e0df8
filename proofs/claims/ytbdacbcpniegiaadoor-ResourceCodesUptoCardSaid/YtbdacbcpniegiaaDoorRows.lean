/-
  NARROWER THAN 'FOR EVERY INPUT', by the rows' own cells (each row's printed sentence says how): MessageStatus: laid · MessagePings: laid · LedgerStays: laid · LedgerRoom: laid · LedgerKeys: laid · LedgerPlays: laid · LedgerErases: laid · MessageWrong: laid · ResourceCodes: laid · ResourceBack: laid · ResourceSets: laid · ResourceFields: laid · ResourceLists: laid · ResourceSorted: laid.
  DERIVED. THE GIVEN ROWS OF THIS SEAT. 14 by the template 'for every input the law returns true; each argument reads behind the call as it read before'; 0 by the template 'total and deterministic' (their statements: YtbdacbcpniegiaaDoorTotals.lean).
  GIVEN WITH THE SEED: the statements are not yours to turn. If you find one false, say at which input.
  Laid BY PROGRAM, IN A SANDBOX (cutbox-rows.mjs): the forced cells as the released guide's own fill.sh prints them over the translation 91daff8b576632c4… (all of the seat's roots in one cut). By AI agents, Wed Nov 11 2026. No macro, syntax, notation, axiom, sorry.
-/
import Derived.Test.YtbdacbcpniegiaaDoorChecked
import GoSem.PinnedTables
import GoSem.Claim
import GoSem.ClaimJoined
import GoSem.ClaimMapViews
import Derived.JoinedTies
import Derived.KernelRfl
namespace Go.Proofs.YtbdacbcpniegiaaDoor
/- THE CELL 'sum', in the pinned program and in every row, IS THE sha256 OF THE DUMP (.gsa) THAT YtbdacbcpniegiaaDoorProg.lean LOADS. Nothing in Lean hashes anything: it is a label: what it is worth is what the hold of that sum in a sandbox is worth. -/
noncomputable def Tryd.pinned : Pinned := { name := "ytbdacbcpniegiaadoor", sum := "91daff8b576632c4830732194f9e0452443ee3598f22384e7261ee774bd8526b", checked := Tryd.checked }
namespace Rows
def none {H : Type} : Left H := { results := [], args := [] }

/- WHAT THE LISTED PACKAGE-LEVEL VARIABLES READ AS WHEN THE CALL BEGINS. Each datum BY PROGRAM (the guide's laid-datum.mjs) off the statement by which the dump's own 'gosem.cut.vars' lays the variable. In a bare row this is a premise. The card (YtbdacbcpniegiaaDoorCards.lean) ties it to the program's text. -/
def laid_unicode_utf8_acceptRanges {H : Type} : DataW H := .agg [.agg [.lit (.int .u8 128), .lit (.int .u8 191)], .agg [.lit (.int .u8 160), .lit (.int .u8 191)], .agg [.lit (.int .u8 128), .lit (.int .u8 159)], .agg [.lit (.int .u8 144), .lit (.int .u8 191)], .agg [.lit (.int .u8 128), .lit (.int .u8 143)], .agg [.lit (.int .u8 0), .lit (.int .u8 0)], .agg [.lit (.int .u8 0), .lit (.int .u8 0)], .agg [.lit (.int .u8 0), .lit (.int .u8 0)], .agg [.lit (.int .u8 0), .lit (.int .u8 0)], .agg [.lit (.int .u8 0), .lit (.int .u8 0)], .agg [.lit (.int .u8 0), .lit (.int .u8 0)], .agg [.lit (.int .u8 0), .lit (.int .u8 0)], .agg [.lit (.int .u8 0), .lit (.int .u8 0)], .agg [.lit (.int .u8 0), .lit (.int .u8 0)], .agg [.lit (.int .u8 0), .lit (.int .u8 0)], .agg [.lit (.int .u8 0), .lit (.int .u8 0)]]
def laid_noria_wire_errShort {H : Type} : DataW H := .iface "*errors.errorString" (.ptr (.agg [.lit (.string [116, 111, 111, 32, 102, 101, 119, 32, 98, 121, 116, 101, 115])]))
def laid_noria_wire_errWrong {H : Type} : DataW H := .iface "*errors.errorString" (.ptr (.agg [.lit (.string [110, 111, 32, 115, 117, 99, 104, 32, 102, 105, 101, 108, 100])]))
def laid_noria_message_errKind {H : Type} : DataW H := .iface "*errors.errorString" (.ptr (.agg [.lit (.string [111, 102, 32, 97, 110, 111, 116, 104, 101, 114, 32, 107, 105, 110, 100])]))
def laid_noria_message_errForm {H : Type} : DataW H := .iface "*errors.errorString" (.ptr (.agg [.lit (.string [110, 111, 32, 115, 117, 99, 104, 32, 109, 101, 115, 115, 97, 103, 101])]))
/-- One of Go's own tables, pinned by name: the form's constant. -/
def laid_unicode_utf8_first : DataW Unit := Go.Pinned.utf8First

/-- 'norialaw05.MessageStatus': WHATEVER THE INPUT: true; the input reads as it did. -/
def messageStatusSpec : ChangeSpec := { name := "messageStatus", fn := fun _ => fun
  | [d1, d2, d3, d4] => { results := [.lit (.bool true)], args := [d1, d2, d3, d4] }
  | _ => none }
def messageStatusRow : OpenClaim := { program := "ytbdacbcpniegiaadoor", sum := "91daff8b576632c4830732194f9e0452443ee3598f22384e7261ee774bd8526b", func := "noria/norialaw05.MessageStatus", spec := "messageStatus", inPlace := ["internal/bytealg.IndexByteString", "internal/bytealg.IndexString", "internal/abi.NoEscape", "internal/reflectlite.TypeOf"], unfollowed := true, recurses := true, named := ["unicode/utf8.first", "unicode/utf8.acceptRanges", "noria/message.errForm", "noria/wire.errShort", "noria/wire.errWrong", "noria/message.errKind", "internal/bytealg.MaxLen"], apart := false, laid := [("unicode/utf8.acceptRanges", laid_unicode_utf8_acceptRanges), ("noria/wire.errShort", laid_noria_wire_errShort), ("noria/wire.errWrong", laid_noria_wire_errWrong), ("noria/message.errKind", laid_noria_message_errKind), ("noria/message.errForm", laid_noria_message_errForm), ("unicode/utf8.first", laid_unicode_utf8_first)] }
def MessageStatusSaid : Prop := messageStatusRow.holds Tryd.pinned (OpenSpec.ofChange messageStatusSpec)

/-- ITS FALSE NEIGHBOUR: 'it returns false'. Refute it at one input. -/
def messageStatusWrong : ChangeSpec := { name := "messageStatus", fn := fun _ => fun
  | [d1, d2, d3, d4] => { results := [.lit (.bool false)], args := [d1, d2, d3, d4] }
  | _ => none }
def MessageStatusWrongFalsely : Prop := messageStatusRow.holds Tryd.pinned (OpenSpec.ofChange messageStatusWrong)

/-- 'norialaw05.MessagePings': WHATEVER THE INPUT: true; the input reads as it did. -/
def messagePingsSpec : ChangeSpec := { name := "messagePings", fn := fun _ => fun
  | [d1, d2] => { results := [.lit (.bool true)], args := [d1, d2] }
  | _ => none }
def messagePingsRow : OpenClaim := { program := "ytbdacbcpniegiaadoor", sum := "91daff8b576632c4830732194f9e0452443ee3598f22384e7261ee774bd8526b", func := "noria/norialaw05.MessagePings", spec := "messagePings", inPlace := ["internal/bytealg.IndexByteString", "internal/bytealg.IndexString", "internal/abi.NoEscape", "internal/reflectlite.TypeOf"], unfollowed := true, recurses := true, named := ["unicode/utf8.first", "unicode/utf8.acceptRanges", "noria/message.errForm", "noria/wire.errShort", "noria/wire.errWrong", "noria/message.errKind", "internal/bytealg.MaxLen"], apart := false, laid := [("unicode/utf8.acceptRanges", laid_unicode_utf8_acceptRanges), ("noria/wire.errShort", laid_noria_wire_errShort), ("noria/wire.errWrong", laid_noria_wire_errWrong), ("noria/message.errKind", laid_noria_message_errKind), ("noria/message.errForm", laid_noria_message_errForm), ("unicode/utf8.first", laid_unicode_utf8_first)] }
def MessagePingsSaid : Prop := messagePingsRow.holds Tryd.pinned (OpenSpec.ofChange messagePingsSpec)

/-- ITS FALSE NEIGHBOUR: 'it returns false'. Refute it at one input. -/
def messagePingsWrong : ChangeSpec := { name := "messagePings", fn := fun _ => fun
  | [d1, d2] => { results := [.lit (.bool false)], args := [d1, d2] }
  | _ => none }
def MessagePingsWrongFalsely : Prop := messagePingsRow.holds Tryd.pinned (OpenSpec.ofChange messagePingsWrong)

/-- 'norialaw13.LedgerStays': WHATEVER THE INPUT: true; the input reads as it did. -/
def ledgerStaysSpec : ChangeSpec := { name := "ledgerStays", fn := fun _ => fun
  | [d1, d2] => { results := [.lit (.bool true)], args := [d1, d2] }
  | _ => none }
def ledgerStaysRow : OpenClaim := { program := "ytbdacbcpniegiaadoor", sum := "91daff8b576632c4830732194f9e0452443ee3598f22384e7261ee774bd8526b", func := "noria/norialaw13.LedgerStays", spec := "ledgerStays", inPlace := ["internal/bytealg.IndexByteString", "internal/bytealg.IndexString", "slices.overlaps[noria/ledger.Mark]", "internal/abi.NoEscape"], unfollowed := true, recurses := true, named := ["unicode/utf8.first", "unicode/utf8.acceptRanges", "internal/bytealg.MaxLen"], apart := false, laid := [("unicode/utf8.acceptRanges", laid_unicode_utf8_acceptRanges), ("unicode/utf8.first", laid_unicode_utf8_first)] }
def LedgerStaysSaid : Prop := ledgerStaysRow.holds Tryd.pinned (OpenSpec.ofChange ledgerStaysSpec)

/-- ITS FALSE NEIGHBOUR: 'it returns false'. Refute it at one input. -/
def ledgerStaysWrong : ChangeSpec := { name := "ledgerStays", fn := fun _ => fun
  | [d1, d2] => { results := [.lit (.bool false)], args := [d1, d2] }
  | _ => none }
def LedgerStaysWrongFalsely : Prop := ledgerStaysRow.holds Tryd.pinned (OpenSpec.ofChange ledgerStaysWrong)

/-- 'norialaw13.LedgerRoom': WHATEVER THE INPUT: true; the input reads as it did. -/
def ledgerRoomSpec : ChangeSpec := { name := "ledgerRoom", fn := fun _ => fun
  | [d] => { results := [.lit (.bool true)], args := [d] }
  | _ => none }
def ledgerRoomRow : OpenClaim := { program := "ytbdacbcpniegiaadoor", sum := "91daff8b576632c4830732194f9e0452443ee3598f22384e7261ee774bd8526b", func := "noria/norialaw13.LedgerRoom", spec := "ledgerRoom", inPlace := ["internal/bytealg.IndexByteString", "internal/bytealg.IndexString", "slices.overlaps[noria/ledger.Mark]", "internal/abi.NoEscape"], unfollowed := true, recurses := true, named := ["unicode/utf8.first", "unicode/utf8.acceptRanges", "internal/bytealg.MaxLen"], apart := false, laid := [("unicode/utf8.acceptRanges", laid_unicode_utf8_acceptRanges), ("unicode/utf8.first", laid_unicode_utf8_first)] }
def LedgerRoomSaid : Prop := ledgerRoomRow.holds Tryd.pinned (OpenSpec.ofChange ledgerRoomSpec)

/-- ITS FALSE NEIGHBOUR: 'it returns false'. Refute it at one input. -/
def ledgerRoomWrong : ChangeSpec := { name := "ledgerRoom", fn := fun _ => fun
  | [d] => { results := [.lit (.bool false)], args := [d] }
  | _ => none }
def LedgerRoomWrongFalsely : Prop := ledgerRoomRow.holds Tryd.pinned (OpenSpec.ofChange ledgerRoomWrong)

/-- 'norialaw13.LedgerKeys': WHATEVER THE INPUT: true; the input reads as it did. -/
def ledgerKeysSpec : ChangeSpec := { name := "ledgerKeys", fn := fun _ => fun
  | [d1, d2] => { results := [.lit (.bool true)], args := [d1, d2] }
  | _ => none }
def ledgerKeysRow : OpenClaim := { program := "ytbdacbcpniegiaadoor", sum := "91daff8b576632c4830732194f9e0452443ee3598f22384e7261ee774bd8526b", func := "noria/norialaw13.LedgerKeys", spec := "ledgerKeys", inPlace := ["internal/bytealg.IndexByteString", "internal/bytealg.IndexString", "slices.overlaps[noria/ledger.Mark]", "internal/abi.NoEscape"], unfollowed := true, recurses := true, named := ["unicode/utf8.first", "unicode/utf8.acceptRanges", "internal/bytealg.MaxLen"], apart := false, laid := [("unicode/utf8.acceptRanges", laid_unicode_utf8_acceptRanges), ("unicode/utf8.first", laid_unicode_utf8_first)] }
def LedgerKeysSaid : Prop := ledgerKeysRow.holds Tryd.pinned (OpenSpec.ofChange ledgerKeysSpec)

/-- ITS FALSE NEIGHBOUR: 'it returns false'. Refute it at one input. -/
def ledgerKeysWrong : ChangeSpec := { name := "ledgerKeys", fn := fun _ => fun
  | [d1, d2] => { results := [.lit (.bool false)], args := [d1, d2] }
  | _ => none }
def LedgerKeysWrongFalsely : Prop := ledgerKeysRow.holds Tryd.pinned (OpenSpec.ofChange ledgerKeysWrong)

/-- 'norialaw13.LedgerPlays': WHATEVER THE INPUT: true; the input reads as it did. -/
def ledgerPlaysSpec : ChangeSpec := { name := "ledgerPlays", fn := fun _ => fun
  | [d] => { results := [.lit (.bool true)], args := [d] }
  | _ => none }
def ledgerPlaysRow : OpenClaim := { program := "ytbdacbcpniegiaadoor", sum := "91daff8b576632c4830732194f9e0452443ee3598f22384e7261ee774bd8526b", func := "noria/norialaw13.LedgerPlays", spec := "ledgerPlays", inPlace := ["internal/bytealg.IndexByteString", "internal/bytealg.IndexString", "slices.overlaps[noria/ledger.Mark]", "internal/abi.NoEscape"], unfollowed := true, recurses := true, named := ["unicode/utf8.first", "unicode/utf8.acceptRanges", "internal/bytealg.MaxLen"], apart := false, laid := [("unicode/utf8.acceptRanges", laid_unicode_utf8_acceptRanges), ("unicode/utf8.first", laid_unicode_utf8_first)] }
def LedgerPlaysSaid : Prop := ledgerPlaysRow.holds Tryd.pinned (OpenSpec.ofChange ledgerPlaysSpec)

/-- ITS FALSE NEIGHBOUR: 'it returns false'. Refute it at one input. -/
def ledgerPlaysWrong : ChangeSpec := { name := "ledgerPlays", fn := fun _ => fun
  | [d] => { results := [.lit (.bool false)], args := [d] }
  | _ => none }
def LedgerPlaysWrongFalsely : Prop := ledgerPlaysRow.holds Tryd.pinned (OpenSpec.ofChange ledgerPlaysWrong)

/-- 'norialaw13.LedgerErases': WHATEVER THE INPUT: true; the input reads as it did. -/
def ledgerErasesSpec : ChangeSpec := { name := "ledgerErases", fn := fun _ => fun
  | [d1, d2, d3] => { results := [.lit (.bool true)], args := [d1, d2, d3] }
  | _ => none }
def ledgerErasesRow : OpenClaim := { program := "ytbdacbcpniegiaadoor", sum := "91daff8b576632c4830732194f9e0452443ee3598f22384e7261ee774bd8526b", func := "noria/norialaw13.LedgerErases", spec := "ledgerErases", inPlace := ["internal/bytealg.IndexByteString", "internal/bytealg.IndexString", "slices.overlaps[noria/ledger.Mark]", "internal/abi.NoEscape"], unfollowed := true, recurses := true, named := ["unicode/utf8.first", "unicode/utf8.acceptRanges", "internal/bytealg.MaxLen"], apart := false, laid := [("unicode/utf8.acceptRanges", laid_unicode_utf8_acceptRanges), ("unicode/utf8.first", laid_unicode_utf8_first)] }
def LedgerErasesSaid : Prop := ledgerErasesRow.holds Tryd.pinned (OpenSpec.ofChange ledgerErasesSpec)

/-- ITS FALSE NEIGHBOUR: 'it returns false'. Refute it at one input. -/
def ledgerErasesWrong : ChangeSpec := { name := "ledgerErases", fn := fun _ => fun
  | [d1, d2, d3] => { results := [.lit (.bool false)], args := [d1, d2, d3] }
  | _ => none }
def LedgerErasesWrongFalsely : Prop := ledgerErasesRow.holds Tryd.pinned (OpenSpec.ofChange ledgerErasesWrong)

/-- 'norialaw05.MessageWrong': WHATEVER THE INPUT: true; the input reads as it did. -/
def messageWrongSpec : ChangeSpec := { name := "messageWrong", fn := fun _ => fun
  | [d1, d2, d3, d4] => { results := [.lit (.bool true)], args := [d1, d2, d3, d4] }
  | _ => none }
def messageWrongRow : OpenClaim := { program := "ytbdacbcpniegiaadoor", sum := "91daff8b576632c4830732194f9e0452443ee3598f22384e7261ee774bd8526b", func := "noria/norialaw05.MessageWrong", spec := "messageWrong", inPlace := ["internal/bytealg.IndexByteString", "internal/bytealg.IndexString", "internal/abi.NoEscape", "internal/reflectlite.TypeOf"], unfollowed := true, recurses := true, named := ["unicode/utf8.first", "unicode/utf8.acceptRanges", "noria/message.errForm", "noria/wire.errShort", "noria/wire.errWrong", "noria/message.errKind", "internal/bytealg.MaxLen"], apart := false, laid := [("unicode/utf8.acceptRanges", laid_unicode_utf8_acceptRanges), ("noria/wire.errShort", laid_noria_wire_errShort), ("noria/wire.errWrong", laid_noria_wire_errWrong), ("noria/message.errKind", laid_noria_message_errKind), ("noria/message.errForm", laid_noria_message_errForm), ("unicode/utf8.first", laid_unicode_utf8_first)] }
def MessageWrongSaid : Prop := messageWrongRow.holds Tryd.pinned (OpenSpec.ofChange messageWrongSpec)

/-- ITS FALSE NEIGHBOUR: 'it returns false'. Refute it at one input. -/
def messageWrongWrong : ChangeSpec := { name := "messageWrong", fn := fun _ => fun
  | [d1, d2, d3, d4] => { results := [.lit (.bool false)], args := [d1, d2, d3, d4] }
  | _ => none }
def MessageWrongWrongFalsely : Prop := messageWrongRow.holds Tryd.pinned (OpenSpec.ofChange messageWrongWrong)

/-- 'norialaw04.ResourceCodes': WHATEVER THE INPUT: true; the input reads as it did. -/
def resourceCodesSpec : ChangeSpec := { name := "resourceCodes", fn := fun _ => fun
  | [d1, d2, d3, d4, d5] => { results := [.lit (.bool true)], args := [d1, d2, d3, d4, d5] }
  | _ => none }
def resourceCodesRow : OpenClaim := { program := "ytbdacbcpniegiaadoor", sum := "91daff8b576632c4830732194f9e0452443ee3598f22384e7261ee774bd8526b", func := "noria/norialaw04.ResourceCodes", spec := "resourceCodes", inPlace := ["internal/bytealg.IndexByteString", "internal/bytealg.IndexString", "internal/reflectlite.TypeOf", "slices.overlaps[noria/api.Resource]"], unfollowed := true, recurses := true, named := ["unicode/utf8.first", "unicode/utf8.acceptRanges", "noria/wire.errShort", "noria/wire.errWrong", "internal/bytealg.MaxLen"], apart := false, laid := [("unicode/utf8.acceptRanges", laid_unicode_utf8_acceptRanges), ("noria/wire.errShort", laid_noria_wire_errShort), ("noria/wire.errWrong", laid_noria_wire_errWrong), ("unicode/utf8.first", laid_unicode_utf8_first)] }
def ResourceCodesSaid : Prop := resourceCodesRow.holds Tryd.pinned (OpenSpec.ofChange resourceCodesSpec)

/-- ITS FALSE NEIGHBOUR: 'it returns false'. Refute it at one input. -/
def resourceCodesWrong : ChangeSpec := { name := "resourceCodes", fn := fun _ => fun
  | [d1, d2, d3, d4, d5] => { results := [.lit (.bool false)], args := [d1, d2, d3, d4, d5] }
  | _ => none }
def ResourceCodesWrongFalsely : Prop := resourceCodesRow.holds Tryd.pinned (OpenSpec.ofChange resourceCodesWrong)

/-- 'norialaw04.ResourceBack': WHATEVER THE INPUT: true; the input reads as it did. -/
def resourceBackSpec : ChangeSpec := { name := "resourceBack", fn := fun _ => fun
  | [d1, d2, d3, d4] => { results := [.lit (.bool true)], args := [d1, d2, d3, d4] }
  | _ => none }
def resourceBackRow : OpenClaim := { program := "ytbdacbcpniegiaadoor", sum := "91daff8b576632c4830732194f9e0452443ee3598f22384e7261ee774bd8526b", func := "noria/norialaw04.ResourceBack", spec := "resourceBack", inPlace := ["internal/bytealg.IndexByteString", "internal/bytealg.IndexString", "internal/reflectlite.TypeOf", "slices.overlaps[noria/api.Resource]"], unfollowed := true, recurses := true, named := ["unicode/utf8.first", "unicode/utf8.acceptRanges", "noria/wire.errShort", "noria/wire.errWrong", "internal/bytealg.MaxLen"], apart := false, laid := [("unicode/utf8.acceptRanges", laid_unicode_utf8_acceptRanges), ("noria/wire.errShort", laid_noria_wire_errShort), ("noria/wire.errWrong", laid_noria_wire_errWrong), ("unicode/utf8.first", laid_unicode_utf8_first)] }
def ResourceBackSaid : Prop := resourceBackRow.holds Tryd.pinned (OpenSpec.ofChange resourceBackSpec)

/-- ITS FALSE NEIGHBOUR: 'it returns false'. Refute it at one input. -/
def resourceBackWrong : ChangeSpec := { name := "resourceBack", fn := fun _ => fun
  | [d1, d2, d3, d4] => { results := [.lit (.bool false)], args := [d1, d2, d3, d4] }
  | _ => none }
def ResourceBackWrongFalsely : Prop := resourceBackRow.holds Tryd.pinned (OpenSpec.ofChange resourceBackWrong)

/-- 'norialaw04.ResourceSets': WHATEVER THE INPUT: true; the input reads as it did. -/
def resourceSetsSpec : ChangeSpec := { name := "resourceSets", fn := fun _ => fun
  | [d1, d2, d3] => { results := [.lit (.bool true)], args := [d1, d2, d3] }
  | _ => none }
def resourceSetsRow : OpenClaim := { program := "ytbdacbcpniegiaadoor", sum := "91daff8b576632c4830732194f9e0452443ee3598f22384e7261ee774bd8526b", func := "noria/norialaw04.ResourceSets", spec := "resourceSets", inPlace := ["internal/bytealg.IndexByteString", "internal/bytealg.IndexString", "internal/reflectlite.TypeOf", "slices.overlaps[noria/api.Resource]"], unfollowed := true, recurses := true, named := ["unicode/utf8.first", "unicode/utf8.acceptRanges", "noria/wire.errShort", "noria/wire.errWrong", "internal/bytealg.MaxLen"], apart := false, laid := [("unicode/utf8.acceptRanges", laid_unicode_utf8_acceptRanges), ("noria/wire.errShort", laid_noria_wire_errShort), ("noria/wire.errWrong", laid_noria_wire_errWrong), ("unicode/utf8.first", laid_unicode_utf8_first)] }
def ResourceSetsSaid : Prop := resourceSetsRow.holds Tryd.pinned (OpenSpec.ofChange resourceSetsSpec)

/-- ITS FALSE NEIGHBOUR: 'it returns false'. Refute it at one input. -/
def resourceSetsWrong : ChangeSpec := { name := "resourceSets", fn := fun _ => fun
  | [d1, d2, d3] => { results := [.lit (.bool false)], args := [d1, d2, d3] }
  | _ => none }
def ResourceSetsWrongFalsely : Prop := resourceSetsRow.holds Tryd.pinned (OpenSpec.ofChange resourceSetsWrong)

/-- 'norialaw04.ResourceFields': WHATEVER THE INPUT: true; the input reads as it did. -/
def resourceFieldsSpec : ChangeSpec := { name := "resourceFields", fn := fun _ => fun
  | [d1, d2, d3] => { results := [.lit (.bool true)], args := [d1, d2, d3] }
  | _ => none }
def resourceFieldsRow : OpenClaim := { program := "ytbdacbcpniegiaadoor", sum := "91daff8b576632c4830732194f9e0452443ee3598f22384e7261ee774bd8526b", func := "noria/norialaw04.ResourceFields", spec := "resourceFields", inPlace := ["internal/bytealg.IndexByteString", "internal/bytealg.IndexString", "internal/reflectlite.TypeOf", "slices.overlaps[noria/api.Resource]"], unfollowed := true, recurses := true, named := ["unicode/utf8.first", "unicode/utf8.acceptRanges", "noria/wire.errShort", "noria/wire.errWrong", "internal/bytealg.MaxLen"], apart := false, laid := [("unicode/utf8.acceptRanges", laid_unicode_utf8_acceptRanges), ("noria/wire.errShort", laid_noria_wire_errShort), ("noria/wire.errWrong", laid_noria_wire_errWrong), ("unicode/utf8.first", laid_unicode_utf8_first)] }
def ResourceFieldsSaid : Prop := resourceFieldsRow.holds Tryd.pinned (OpenSpec.ofChange resourceFieldsSpec)

/-- ITS FALSE NEIGHBOUR: 'it returns false'. Refute it at one input. -/
def resourceFieldsWrong : ChangeSpec := { name := "resourceFields", fn := fun _ => fun
  | [d1, d2, d3] => { results := [.lit (.bool false)], args := [d1, d2, d3] }
  | _ => none }
def ResourceFieldsWrongFalsely : Prop := resourceFieldsRow.holds Tryd.pinned (OpenSpec.ofChange resourceFieldsWrong)

/-- 'norialaw04.ResourceLists': WHATEVER THE INPUT: true; the input reads as it did. -/
def resourceListsSpec : ChangeSpec := { name := "resourceLists", fn := fun _ => fun
  | [d1, d2, d3, d4] => { results := [.lit (.bool true)], args := [d1, d2, d3, d4] }
  | _ => none }
def resourceListsRow : OpenClaim := { program := "ytbdacbcpniegiaadoor", sum := "91daff8b576632c4830732194f9e0452443ee3598f22384e7261ee774bd8526b", func := "noria/norialaw04.ResourceLists", spec := "resourceLists", inPlace := ["internal/bytealg.IndexByteString", "internal/bytealg.IndexString", "internal/reflectlite.TypeOf", "slices.overlaps[noria/api.Resource]"], unfollowed := true, recurses := true, named := ["unicode/utf8.first", "unicode/utf8.acceptRanges", "noria/wire.errShort", "noria/wire.errWrong", "internal/bytealg.MaxLen"], apart := false, laid := [("unicode/utf8.acceptRanges", laid_unicode_utf8_acceptRanges), ("noria/wire.errShort", laid_noria_wire_errShort), ("noria/wire.errWrong", laid_noria_wire_errWrong), ("unicode/utf8.first", laid_unicode_utf8_first)] }
def ResourceListsSaid : Prop := resourceListsRow.holds Tryd.pinned (OpenSpec.ofChange resourceListsSpec)

/-- ITS FALSE NEIGHBOUR: 'it returns false'. Refute it at one input. -/
def resourceListsWrong : ChangeSpec := { name := "resourceLists", fn := fun _ => fun
  | [d1, d2, d3, d4] => { results := [.lit (.bool false)], args := [d1, d2, d3, d4] }
  | _ => none }
def ResourceListsWrongFalsely : Prop := resourceListsRow.holds Tryd.pinned (OpenSpec.ofChange resourceListsWrong)

/-- 'norialaw04.ResourceSorted': WHATEVER THE INPUT: true; the input reads as it did. -/
def resourceSortedSpec : ChangeSpec := { name := "resourceSorted", fn := fun _ => fun
  | [d] => { results := [.lit (.bool true)], args := [d] }
  | _ => none }
def resourceSortedRow : OpenClaim := { program := "ytbdacbcpniegiaadoor", sum := "91daff8b576632c4830732194f9e0452443ee3598f22384e7261ee774bd8526b", func := "noria/norialaw04.ResourceSorted", spec := "resourceSorted", inPlace := ["internal/bytealg.IndexByteString", "internal/bytealg.IndexString", "internal/reflectlite.TypeOf", "slices.overlaps[noria/api.Resource]"], unfollowed := true, recurses := true, named := ["unicode/utf8.first", "unicode/utf8.acceptRanges", "noria/wire.errShort", "noria/wire.errWrong", "internal/bytealg.MaxLen"], apart := false, laid := [("unicode/utf8.acceptRanges", laid_unicode_utf8_acceptRanges), ("noria/wire.errShort", laid_noria_wire_errShort), ("noria/wire.errWrong", laid_noria_wire_errWrong), ("unicode/utf8.first", laid_unicode_utf8_first)] }
def ResourceSortedSaid : Prop := resourceSortedRow.holds Tryd.pinned (OpenSpec.ofChange resourceSortedSpec)

/-- ITS FALSE NEIGHBOUR: 'it returns false'. Refute it at one input. -/
def resourceSortedWrong : ChangeSpec := { name := "resourceSorted", fn := fun _ => fun
  | [d] => { results := [.lit (.bool false)], args := [d] }
  | _ => none }
def ResourceSortedWrongFalsely : Prop := resourceSortedRow.holds Tryd.pinned (OpenSpec.ofChange resourceSortedWrong)

/- THE SECOND FORM. 'bulk': how many values and letters a reading holds, each counted each time it is reached (what is shared counts as often as it is met; a slice's spare places count too). A statement '..UptoSaid' is the law's where the arguments, and the package variables that the reading takes, are together of bulk at most 1048576: NARROWER than '..Said'. Prove '..Said' where nothing that the law and all that it calls make is longer than what came in: it says more and counts as full. Else prove '..UptoSaid'. A law counts once. -/
mutual
def uptoBulk {H : Type} : DataW H → Nat
  | .lit (.string bytes) => bytes.length + 1
  | .lit _ => 1
  | .nil => 1
  | .ptr d => uptoBulk d + 1
  | .slice elems spare => uptoBulkAll elems + uptoBulkAll spare + 1
  | .agg parts => uptoBulkAll parts + 1
  | .iface _ d => uptoBulk d + 1
  | .map entries => uptoBulkEntries entries + 1
  | .held _ => 1
def uptoBulkAll {H : Type} : List (DataW H) → Nat
  | [] => 0
  | d :: r => uptoBulk d + uptoBulkAll r
def uptoBulkEntries {H : Type} : List (Lit × DataW H) → Nat
  | [] => 0
  | x :: r => uptoBulkEntry x + uptoBulkEntries r
def uptoBulkEntry {H : Type} : Lit × DataW H → Nat
  | (.string bytes, d) => bytes.length + uptoBulk d + 1
  | (_, d) => uptoBulk d + 1
 end
def uptoSmall : (H : Type) → List (DataW H) → Bool := fun _ ds => decide (uptoBulkAll ds ≤ 1048576)
def OpenSpec.upto (s : _root_.Go.ChangeSpec) : _root_.Go.OpenSpec := { _root_.Go.OpenSpec.ofChange s with cond := some uptoSmall }

/-- 'norialaw05.MessageStatus', WHERE WHAT IT READS IS OF BULK AT MOST 1048576: true; the input reads as it did. -/
def messageStatusUptoRow : OpenClaim := { program := "ytbdacbcpniegiaadoor", sum := "91daff8b576632c4830732194f9e0452443ee3598f22384e7261ee774bd8526b", func := "noria/norialaw05.MessageStatus", spec := "messageStatus", inPlace := ["internal/bytealg.IndexByteString", "internal/bytealg.IndexString", "internal/abi.NoEscape", "internal/reflectlite.TypeOf"], unfollowed := true, recurses := true, named := ["unicode/utf8.first", "unicode/utf8.acceptRanges", "noria/message.errForm", "noria/wire.errShort", "noria/wire.errWrong", "noria/message.errKind", "internal/bytealg.MaxLen"], apart := false, laid := [("unicode/utf8.acceptRanges", laid_unicode_utf8_acceptRanges), ("noria/wire.errShort", laid_noria_wire_errShort), ("noria/wire.errWrong", laid_noria_wire_errWrong), ("noria/message.errKind", laid_noria_message_errKind), ("noria/message.errForm", laid_noria_message_errForm), ("unicode/utf8.first", laid_unicode_utf8_first)], narrowed := true }
def MessageStatusUptoSaid : Prop := messageStatusUptoRow.holds Tryd.pinned (OpenSpec.upto messageStatusSpec)

/-- 'norialaw05.MessagePings', WHERE WHAT IT READS IS OF BULK AT MOST 1048576: true; the input reads as it did. -/
def messagePingsUptoRow : OpenClaim := { program := "ytbdacbcpniegiaadoor", sum := "91daff8b576632c4830732194f9e0452443ee3598f22384e7261ee774bd8526b", func := "noria/norialaw05.MessagePings", spec := "messagePings", inPlace := ["internal/bytealg.IndexByteString", "internal/bytealg.IndexString", "internal/abi.NoEscape", "internal/reflectlite.TypeOf"], unfollowed := true, recurses := true, named := ["unicode/utf8.first", "unicode/utf8.acceptRanges", "noria/message.errForm", "noria/wire.errShort", "noria/wire.errWrong", "noria/message.errKind", "internal/bytealg.MaxLen"], apart := false, laid := [("unicode/utf8.acceptRanges", laid_unicode_utf8_acceptRanges), ("noria/wire.errShort", laid_noria_wire_errShort), ("noria/wire.errWrong", laid_noria_wire_errWrong), ("noria/message.errKind", laid_noria_message_errKind), ("noria/message.errForm", laid_noria_message_errForm), ("unicode/utf8.first", laid_unicode_utf8_first)], narrowed := true }
def MessagePingsUptoSaid : Prop := messagePingsUptoRow.holds Tryd.pinned (OpenSpec.upto messagePingsSpec)

/-- 'norialaw13.LedgerStays', WHERE WHAT IT READS IS OF BULK AT MOST 1048576: true; the input reads as it did. -/
def ledgerStaysUptoRow : OpenClaim := { program := "ytbdacbcpniegiaadoor", sum := "91daff8b576632c4830732194f9e0452443ee3598f22384e7261ee774bd8526b", func := "noria/norialaw13.LedgerStays", spec := "ledgerStays", inPlace := ["internal/bytealg.IndexByteString", "internal/bytealg.IndexString", "slices.overlaps[noria/ledger.Mark]", "internal/abi.NoEscape"], unfollowed := true, recurses := true, named := ["unicode/utf8.first", "unicode/utf8.acceptRanges", "internal/bytealg.MaxLen"], apart := false, laid := [("unicode/utf8.acceptRanges", laid_unicode_utf8_acceptRanges), ("unicode/utf8.first", laid_unicode_utf8_first)], narrowed := true }
def LedgerStaysUptoSaid : Prop := ledgerStaysUptoRow.holds Tryd.pinned (OpenSpec.upto ledgerStaysSpec)

/-- 'norialaw13.LedgerRoom', WHERE WHAT IT READS IS OF BULK AT MOST 1048576: true; the input reads as it did. -/
def ledgerRoomUptoRow : OpenClaim := { program := "ytbdacbcpniegiaadoor", sum := "91daff8b576632c4830732194f9e0452443ee3598f22384e7261ee774bd8526b", func := "noria/norialaw13.LedgerRoom", spec := "ledgerRoom", inPlace := ["internal/bytealg.IndexByteString", "internal/bytealg.IndexString", "slices.overlaps[noria/ledger.Mark]", "internal/abi.NoEscape"], unfollowed := true, recurses := true, named := ["unicode/utf8.first", "unicode/utf8.acceptRanges", "internal/bytealg.MaxLen"], apart := false, laid := [("unicode/utf8.acceptRanges", laid_unicode_utf8_acceptRanges), ("unicode/utf8.first", laid_unicode_utf8_first)], narrowed := true }
def LedgerRoomUptoSaid : Prop := ledgerRoomUptoRow.holds Tryd.pinned (OpenSpec.upto ledgerRoomSpec)

/-- 'norialaw13.LedgerKeys', WHERE WHAT IT READS IS OF BULK AT MOST 1048576: true; the input reads as it did. -/
def ledgerKeysUptoRow : OpenClaim := { program := "ytbdacbcpniegiaadoor", sum := "91daff8b576632c4830732194f9e0452443ee3598f22384e7261ee774bd8526b", func := "noria/norialaw13.LedgerKeys", spec := "ledgerKeys", inPlace := ["internal/bytealg.IndexByteString", "internal/bytealg.IndexString", "slices.overlaps[noria/ledger.Mark]", "internal/abi.NoEscape"], unfollowed := true, recurses := true, named := ["unicode/utf8.first", "unicode/utf8.acceptRanges", "internal/bytealg.MaxLen"], apart := false, laid := [("unicode/utf8.acceptRanges", laid_unicode_utf8_acceptRanges), ("unicode/utf8.first", laid_unicode_utf8_first)], narrowed := true }
def LedgerKeysUptoSaid : Prop := ledgerKeysUptoRow.holds Tryd.pinned (OpenSpec.upto ledgerKeysSpec)

/-- 'norialaw13.LedgerPlays', WHERE WHAT IT READS IS OF BULK AT MOST 1048576: true; the input reads as it did. -/
def ledgerPlaysUptoRow : OpenClaim := { program := "ytbdacbcpniegiaadoor", sum := "91daff8b576632c4830732194f9e0452443ee3598f22384e7261ee774bd8526b", func := "noria/norialaw13.LedgerPlays", spec := "ledgerPlays", inPlace := ["internal/bytealg.IndexByteString", "internal/bytealg.IndexString", "slices.overlaps[noria/ledger.Mark]", "internal/abi.NoEscape"], unfollowed := true, recurses := true, named := ["unicode/utf8.first", "unicode/utf8.acceptRanges", "internal/bytealg.MaxLen"], apart := false, laid := [("unicode/utf8.acceptRanges", laid_unicode_utf8_acceptRanges), ("unicode/utf8.first", laid_unicode_utf8_first)], narrowed := true }
def LedgerPlaysUptoSaid : Prop := ledgerPlaysUptoRow.holds Tryd.pinned (OpenSpec.upto ledgerPlaysSpec)

/-- 'norialaw13.LedgerErases', WHERE WHAT IT READS IS OF BULK AT MOST 1048576: true; the input reads as it did. -/
def ledgerErasesUptoRow : OpenClaim := { program := "ytbdacbcpniegiaadoor", sum := "91daff8b576632c4830732194f9e0452443ee3598f22384e7261ee774bd8526b", func := "noria/norialaw13.LedgerErases", spec := "ledgerErases", inPlace := ["internal/bytealg.IndexByteString", "internal/bytealg.IndexString", "slices.overlaps[noria/ledger.Mark]", "internal/abi.NoEscape"], unfollowed := true, recurses := true, named := ["unicode/utf8.first", "unicode/utf8.acceptRanges", "internal/bytealg.MaxLen"], apart := false, laid := [("unicode/utf8.acceptRanges", laid_unicode_utf8_acceptRanges), ("unicode/utf8.first", laid_unicode_utf8_first)], narrowed := true }
def LedgerErasesUptoSaid : Prop := ledgerErasesUptoRow.holds Tryd.pinned (OpenSpec.upto ledgerErasesSpec)

/-- 'norialaw05.MessageWrong', WHERE WHAT IT READS IS OF BULK AT MOST 1048576: true; the input reads as it did. -/
def messageWrongUptoRow : OpenClaim := { program := "ytbdacbcpniegiaadoor", sum := "91daff8b576632c4830732194f9e0452443ee3598f22384e7261ee774bd8526b", func := "noria/norialaw05.MessageWrong", spec := "messageWrong", inPlace := ["internal/bytealg.IndexByteString", "internal/bytealg.IndexString", "internal/abi.NoEscape", "internal/reflectlite.TypeOf"], unfollowed := true, recurses := true, named := ["unicode/utf8.first", "unicode/utf8.acceptRanges", "noria/message.errForm", "noria/wire.errShort", "noria/wire.errWrong", "noria/message.errKind", "internal/bytealg.MaxLen"], apart := false, laid := [("unicode/utf8.acceptRanges", laid_unicode_utf8_acceptRanges), ("noria/wire.errShort", laid_noria_wire_errShort), ("noria/wire.errWrong", laid_noria_wire_errWrong), ("noria/message.errKind", laid_noria_message_errKind), ("noria/message.errForm", laid_noria_message_errForm), ("unicode/utf8.first", laid_unicode_utf8_first)], narrowed := true }
def MessageWrongUptoSaid : Prop := messageWrongUptoRow.holds Tryd.pinned (OpenSpec.upto messageWrongSpec)

/-- 'norialaw04.ResourceCodes', WHERE WHAT IT READS IS OF BULK AT MOST 1048576: true; the input reads as it did. -/
def resourceCodesUptoRow : OpenClaim := { program := "ytbdacbcpniegiaadoor", sum := "91daff8b576632c4830732194f9e0452443ee3598f22384e7261ee774bd8526b", func := "noria/norialaw04.ResourceCodes", spec := "resourceCodes", inPlace := ["internal/bytealg.IndexByteString", "internal/bytealg.IndexString", "internal/reflectlite.TypeOf", "slices.overlaps[noria/api.Resource]"], unfollowed := true, recurses := true, named := ["unicode/utf8.first", "unicode/utf8.acceptRanges", "noria/wire.errShort", "noria/wire.errWrong", "internal/bytealg.MaxLen"], apart := false, laid := [("unicode/utf8.acceptRanges", laid_unicode_utf8_acceptRanges), ("noria/wire.errShort", laid_noria_wire_errShort), ("noria/wire.errWrong", laid_noria_wire_errWrong), ("unicode/utf8.first", laid_unicode_utf8_first)], narrowed := true }
def ResourceCodesUptoSaid : Prop := resourceCodesUptoRow.holds Tryd.pinned (OpenSpec.upto resourceCodesSpec)

/-- 'norialaw04.ResourceBack', WHERE WHAT IT READS IS OF BULK AT MOST 1048576: true; the input reads as it did. -/
def resourceBackUptoRow : OpenClaim := { program := "ytbdacbcpniegiaadoor", sum := "91daff8b576632c4830732194f9e0452443ee3598f22384e7261ee774bd8526b", func := "noria/norialaw04.ResourceBack", spec := "resourceBack", inPlace := ["internal/bytealg.IndexByteString", "internal/bytealg.IndexString", "internal/reflectlite.TypeOf", "slices.overlaps[noria/api.Resource]"], unfollowed := true, recurses := true, named := ["unicode/utf8.first", "unicode/utf8.acceptRanges", "noria/wire.errShort", "noria/wire.errWrong", "internal/bytealg.MaxLen"], apart := false, laid := [("unicode/utf8.acceptRanges", laid_unicode_utf8_acceptRanges), ("noria/wire.errShort", laid_noria_wire_errShort), ("noria/wire.errWrong", laid_noria_wire_errWrong), ("unicode/utf8.first", laid_unicode_utf8_first)], narrowed := true }
def ResourceBackUptoSaid : Prop := resourceBackUptoRow.holds Tryd.pinned (OpenSpec.upto resourceBackSpec)

/-- 'norialaw04.ResourceSets', WHERE WHAT IT READS IS OF BULK AT MOST 1048576: true; the input reads as it did. -/
def resourceSetsUptoRow : OpenClaim := { program := "ytbdacbcpniegiaadoor", sum := "91daff8b576632c4830732194f9e0452443ee3598f22384e7261ee774bd8526b", func := "noria/norialaw04.ResourceSets", spec := "resourceSets", inPlace := ["internal/bytealg.IndexByteString", "internal/bytealg.IndexString", "internal/reflectlite.TypeOf", "slices.overlaps[noria/api.Resource]"], unfollowed := true, recurses := true, named := ["unicode/utf8.first", "unicode/utf8.acceptRanges", "noria/wire.errShort", "noria/wire.errWrong", "internal/bytealg.MaxLen"], apart := false, laid := [("unicode/utf8.acceptRanges", laid_unicode_utf8_acceptRanges), ("noria/wire.errShort", laid_noria_wire_errShort), ("noria/wire.errWrong", laid_noria_wire_errWrong), ("unicode/utf8.first", laid_unicode_utf8_first)], narrowed := true }
def ResourceSetsUptoSaid : Prop := resourceSetsUptoRow.holds Tryd.pinned (OpenSpec.upto resourceSetsSpec)

/-- 'norialaw04.ResourceFields', WHERE WHAT IT READS IS OF BULK AT MOST 1048576: true; the input reads as it did. -/
def resourceFieldsUptoRow : OpenClaim := { program := "ytbdacbcpniegiaadoor", sum := "91daff8b576632c4830732194f9e0452443ee3598f22384e7261ee774bd8526b", func := "noria/norialaw04.ResourceFields", spec := "resourceFields", inPlace := ["internal/bytealg.IndexByteString", "internal/bytealg.IndexString", "internal/reflectlite.TypeOf", "slices.overlaps[noria/api.Resource]"], unfollowed := true, recurses := true, named := ["unicode/utf8.first", "unicode/utf8.acceptRanges", "noria/wire.errShort", "noria/wire.errWrong", "internal/bytealg.MaxLen"], apart := false, laid := [("unicode/utf8.acceptRanges", laid_unicode_utf8_acceptRanges), ("noria/wire.errShort", laid_noria_wire_errShort), ("noria/wire.errWrong", laid_noria_wire_errWrong), ("unicode/utf8.first", laid_unicode_utf8_first)], narrowed := true }
def ResourceFieldsUptoSaid : Prop := resourceFieldsUptoRow.holds Tryd.pinned (OpenSpec.upto resourceFieldsSpec)

/-- 'norialaw04.ResourceLists', WHERE WHAT IT READS IS OF BULK AT MOST 1048576: true; the input reads as it did. -/
def resourceListsUptoRow : OpenClaim := { program := "ytbdacbcpniegiaadoor", sum := "91daff8b576632c4830732194f9e0452443ee3598f22384e7261ee774bd8526b", func := "noria/norialaw04.ResourceLists", spec := "resourceLists", inPlace := ["internal/bytealg.IndexByteString", "internal/bytealg.IndexString", "internal/reflectlite.TypeOf", "slices.overlaps[noria/api.Resource]"], unfollowed := true, recurses := true, named := ["unicode/utf8.first", "unicode/utf8.acceptRanges", "noria/wire.errShort", "noria/wire.errWrong", "internal/bytealg.MaxLen"], apart := false, laid := [("unicode/utf8.acceptRanges", laid_unicode_utf8_acceptRanges), ("noria/wire.errShort", laid_noria_wire_errShort), ("noria/wire.errWrong", laid_noria_wire_errWrong), ("unicode/utf8.first", laid_unicode_utf8_first)], narrowed := true }
def ResourceListsUptoSaid : Prop := resourceListsUptoRow.holds Tryd.pinned (OpenSpec.upto resourceListsSpec)

/-- 'norialaw04.ResourceSorted', WHERE WHAT IT READS IS OF BULK AT MOST 1048576: true; the input reads as it did. -/
def resourceSortedUptoRow : OpenClaim := { program := "ytbdacbcpniegiaadoor", sum := "91daff8b576632c4830732194f9e0452443ee3598f22384e7261ee774bd8526b", func := "noria/norialaw04.ResourceSorted", spec := "resourceSorted", inPlace := ["internal/bytealg.IndexByteString", "internal/bytealg.IndexString", "internal/reflectlite.TypeOf", "slices.overlaps[noria/api.Resource]"], unfollowed := true, recurses := true, named := ["unicode/utf8.first", "unicode/utf8.acceptRanges", "noria/wire.errShort", "noria/wire.errWrong", "internal/bytealg.MaxLen"], apart := false, laid := [("unicode/utf8.acceptRanges", laid_unicode_utf8_acceptRanges), ("noria/wire.errShort", laid_noria_wire_errShort), ("noria/wire.errWrong", laid_noria_wire_errWrong), ("unicode/utf8.first", laid_unicode_utf8_first)], narrowed := true }
def ResourceSortedUptoSaid : Prop := resourceSortedUptoRow.holds Tryd.pinned (OpenSpec.upto resourceSortedSpec)

end Rows
end Go.Proofs.YtbdacbcpniegiaaDoor
