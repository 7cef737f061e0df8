/-
  NARROWER THAN 'FOR EVERY INPUT', by the rows' own cells (each row's printed sentence says how): MessageReqs: laid · MessageSmall: laid · MessageResps: laid · MessageCuts: laid · MessageBack: laid.
  DERIVED. THE GIVEN ROWS OF THIS SEAT. 5 by the template 'for every input the law returns true; each argument reads behind the call as it read before'; 0 by the template 'total and deterministic' (their statements: YtbdacbcpniegiaaGreatDoorTotals.lean).
  GIVEN WITH THE SEED: the statements are not yours to turn. If you find one false, say at which input.
  Laid BY PROGRAM, IN A SANDBOX (cutbox-rows.mjs): the forced cells as the released guide's own fill.sh prints them over the translation 14e19c8b08c24a3e… (all of the seat's roots in one cut). By AI agents, Wed Nov 11 2026. No macro, syntax, notation, axiom, sorry.
-/
import Derived.Test.YtbdacbcpniegiaaGreatDoorChecked
import GoSem.PinnedTables
import GoSem.Claim
import GoSem.ClaimJoined
import GoSem.ClaimMapViews
import Derived.JoinedTies
import Derived.KernelRfl
namespace Go.Proofs.YtbdacbcpniegiaaGreatDoor
/- THE CELL 'sum', in the pinned program and in every row, IS THE sha256 OF THE DUMP (.gsa) THAT YtbdacbcpniegiaaGreatDoorProg.lean LOADS. Nothing in Lean hashes anything: it is a label: what it is worth is what the hold of that sum in a sandbox is worth. -/
noncomputable def Tryz.pinned : Pinned := { name := "ytbdacbcpniegiaagreatdoor", sum := "14e19c8b08c24a3e3aa0c6ff5f1e33e5e52089e3e45bb371ff1061bb41658438", checked := Tryz.checked }
namespace Rows
def none {H : Type} : Left H := { results := [], args := [] }

/- WHAT THE LISTED PACKAGE-LEVEL VARIABLES READ AS WHEN THE CALL BEGINS. Each datum BY PROGRAM (the guide's laid-datum.mjs) off the statement by which the dump's own 'gosem.cut.vars' lays the variable. In a bare row this is a premise. The card (YtbdacbcpniegiaaGreatDoorCards.lean) ties it to the program's text. -/
def laid_unicode_utf8_acceptRanges {H : Type} : DataW H := .agg [.agg [.lit (.int .u8 128), .lit (.int .u8 191)], .agg [.lit (.int .u8 160), .lit (.int .u8 191)], .agg [.lit (.int .u8 128), .lit (.int .u8 159)], .agg [.lit (.int .u8 144), .lit (.int .u8 191)], .agg [.lit (.int .u8 128), .lit (.int .u8 143)], .agg [.lit (.int .u8 0), .lit (.int .u8 0)], .agg [.lit (.int .u8 0), .lit (.int .u8 0)], .agg [.lit (.int .u8 0), .lit (.int .u8 0)], .agg [.lit (.int .u8 0), .lit (.int .u8 0)], .agg [.lit (.int .u8 0), .lit (.int .u8 0)], .agg [.lit (.int .u8 0), .lit (.int .u8 0)], .agg [.lit (.int .u8 0), .lit (.int .u8 0)], .agg [.lit (.int .u8 0), .lit (.int .u8 0)], .agg [.lit (.int .u8 0), .lit (.int .u8 0)], .agg [.lit (.int .u8 0), .lit (.int .u8 0)], .agg [.lit (.int .u8 0), .lit (.int .u8 0)]]
def laid_noria_wire_errShort {H : Type} : DataW H := .iface "*errors.errorString" (.ptr (.agg [.lit (.string [116, 111, 111, 32, 102, 101, 119, 32, 98, 121, 116, 101, 115])]))
def laid_noria_wire_errWrong {H : Type} : DataW H := .iface "*errors.errorString" (.ptr (.agg [.lit (.string [110, 111, 32, 115, 117, 99, 104, 32, 102, 105, 101, 108, 100])]))
def laid_noria_message_errKind {H : Type} : DataW H := .iface "*errors.errorString" (.ptr (.agg [.lit (.string [111, 102, 32, 97, 110, 111, 116, 104, 101, 114, 32, 107, 105, 110, 100])]))
def laid_noria_message_errForm {H : Type} : DataW H := .iface "*errors.errorString" (.ptr (.agg [.lit (.string [110, 111, 32, 115, 117, 99, 104, 32, 109, 101, 115, 115, 97, 103, 101])]))
/-- One of Go's own tables, pinned by name: the form's constant. -/
def laid_unicode_utf8_first : DataW Unit := Go.Pinned.utf8First

/-- 'norialaw05.MessageReqs': WHATEVER THE INPUT: true; the input reads as it did. -/
def messageReqsSpec : ChangeSpec := { name := "messageReqs", fn := fun _ => fun
  | [d1, d2, d3, d4, d5] => { results := [.lit (.bool true)], args := [d1, d2, d3, d4, d5] }
  | _ => none }
def messageReqsRow : OpenClaim := { program := "ytbdacbcpniegiaagreatdoor", sum := "14e19c8b08c24a3e3aa0c6ff5f1e33e5e52089e3e45bb371ff1061bb41658438", func := "noria/norialaw05.MessageReqs", spec := "messageReqs", inPlace := ["internal/bytealg.IndexByteString", "internal/bytealg.IndexString", "internal/abi.NoEscape", "internal/reflectlite.TypeOf"], unfollowed := true, recurses := true, named := ["unicode/utf8.first", "unicode/utf8.acceptRanges", "noria/message.errForm", "noria/wire.errShort", "noria/wire.errWrong", "noria/message.errKind", "internal/bytealg.MaxLen"], apart := false, laid := [("unicode/utf8.acceptRanges", laid_unicode_utf8_acceptRanges), ("noria/wire.errShort", laid_noria_wire_errShort), ("noria/wire.errWrong", laid_noria_wire_errWrong), ("noria/message.errKind", laid_noria_message_errKind), ("noria/message.errForm", laid_noria_message_errForm), ("unicode/utf8.first", laid_unicode_utf8_first)] }
def MessageReqsSaid : Prop := messageReqsRow.holds Tryz.pinned (OpenSpec.ofChange messageReqsSpec)

/-- ITS FALSE NEIGHBOUR: 'it returns false'. Refute it at one input. -/
def messageReqsWrong : ChangeSpec := { name := "messageReqs", fn := fun _ => fun
  | [d1, d2, d3, d4, d5] => { results := [.lit (.bool false)], args := [d1, d2, d3, d4, d5] }
  | _ => none }
def MessageReqsWrongFalsely : Prop := messageReqsRow.holds Tryz.pinned (OpenSpec.ofChange messageReqsWrong)

/-- 'norialaw05.MessageSmall': WHATEVER THE INPUT: true; the input reads as it did. -/
def messageSmallSpec : ChangeSpec := { name := "messageSmall", fn := fun _ => fun
  | [d1, d2, d3, d4, d5, d6, d7] => { results := [.lit (.bool true)], args := [d1, d2, d3, d4, d5, d6, d7] }
  | _ => none }
def messageSmallRow : OpenClaim := { program := "ytbdacbcpniegiaagreatdoor", sum := "14e19c8b08c24a3e3aa0c6ff5f1e33e5e52089e3e45bb371ff1061bb41658438", func := "noria/norialaw05.MessageSmall", spec := "messageSmall", inPlace := ["internal/bytealg.IndexByteString", "internal/bytealg.IndexString", "internal/abi.NoEscape", "internal/reflectlite.TypeOf"], unfollowed := true, recurses := true, named := ["unicode/utf8.first", "unicode/utf8.acceptRanges", "noria/message.errForm", "noria/wire.errShort", "noria/wire.errWrong", "noria/message.errKind", "internal/bytealg.MaxLen"], apart := false, laid := [("unicode/utf8.acceptRanges", laid_unicode_utf8_acceptRanges), ("noria/wire.errShort", laid_noria_wire_errShort), ("noria/wire.errWrong", laid_noria_wire_errWrong), ("noria/message.errKind", laid_noria_message_errKind), ("noria/message.errForm", laid_noria_message_errForm), ("unicode/utf8.first", laid_unicode_utf8_first)] }
def MessageSmallSaid : Prop := messageSmallRow.holds Tryz.pinned (OpenSpec.ofChange messageSmallSpec)

/-- ITS FALSE NEIGHBOUR: 'it returns false'. Refute it at one input. -/
def messageSmallWrong : ChangeSpec := { name := "messageSmall", fn := fun _ => fun
  | [d1, d2, d3, d4, d5, d6, d7] => { results := [.lit (.bool false)], args := [d1, d2, d3, d4, d5, d6, d7] }
  | _ => none }
def MessageSmallWrongFalsely : Prop := messageSmallRow.holds Tryz.pinned (OpenSpec.ofChange messageSmallWrong)

/-- 'norialaw05.MessageResps': WHATEVER THE INPUT: true; the input reads as it did. -/
def messageRespsSpec : ChangeSpec := { name := "messageResps", fn := fun _ => fun
  | [d1, d2, d3, d4, d5] => { results := [.lit (.bool true)], args := [d1, d2, d3, d4, d5] }
  | _ => none }
def messageRespsRow : OpenClaim := { program := "ytbdacbcpniegiaagreatdoor", sum := "14e19c8b08c24a3e3aa0c6ff5f1e33e5e52089e3e45bb371ff1061bb41658438", func := "noria/norialaw05.MessageResps", spec := "messageResps", inPlace := ["internal/bytealg.IndexByteString", "internal/bytealg.IndexString", "internal/abi.NoEscape", "internal/reflectlite.TypeOf"], unfollowed := true, recurses := true, named := ["unicode/utf8.first", "unicode/utf8.acceptRanges", "noria/message.errForm", "noria/wire.errShort", "noria/wire.errWrong", "noria/message.errKind", "internal/bytealg.MaxLen"], apart := false, laid := [("unicode/utf8.acceptRanges", laid_unicode_utf8_acceptRanges), ("noria/wire.errShort", laid_noria_wire_errShort), ("noria/wire.errWrong", laid_noria_wire_errWrong), ("noria/message.errKind", laid_noria_message_errKind), ("noria/message.errForm", laid_noria_message_errForm), ("unicode/utf8.first", laid_unicode_utf8_first)] }
def MessageRespsSaid : Prop := messageRespsRow.holds Tryz.pinned (OpenSpec.ofChange messageRespsSpec)

/-- ITS FALSE NEIGHBOUR: 'it returns false'. Refute it at one input. -/
def messageRespsWrong : ChangeSpec := { name := "messageResps", fn := fun _ => fun
  | [d1, d2, d3, d4, d5] => { results := [.lit (.bool false)], args := [d1, d2, d3, d4, d5] }
  | _ => none }
def MessageRespsWrongFalsely : Prop := messageRespsRow.holds Tryz.pinned (OpenSpec.ofChange messageRespsWrong)

/-- 'norialaw05.MessageCuts': WHATEVER THE INPUT: true; the input reads as it did. -/
def messageCutsSpec : ChangeSpec := { name := "messageCuts", fn := fun _ => fun
  | [d1, d2, d3] => { results := [.lit (.bool true)], args := [d1, d2, d3] }
  | _ => none }
def messageCutsRow : OpenClaim := { program := "ytbdacbcpniegiaagreatdoor", sum := "14e19c8b08c24a3e3aa0c6ff5f1e33e5e52089e3e45bb371ff1061bb41658438", func := "noria/norialaw05.MessageCuts", spec := "messageCuts", inPlace := ["internal/bytealg.IndexByteString", "internal/bytealg.IndexString", "internal/abi.NoEscape", "internal/reflectlite.TypeOf"], unfollowed := true, recurses := true, named := ["unicode/utf8.first", "unicode/utf8.acceptRanges", "noria/message.errForm", "noria/wire.errShort", "noria/wire.errWrong", "noria/message.errKind", "internal/bytealg.MaxLen"], apart := false, laid := [("unicode/utf8.acceptRanges", laid_unicode_utf8_acceptRanges), ("noria/wire.errShort", laid_noria_wire_errShort), ("noria/wire.errWrong", laid_noria_wire_errWrong), ("noria/message.errKind", laid_noria_message_errKind), ("noria/message.errForm", laid_noria_message_errForm), ("unicode/utf8.first", laid_unicode_utf8_first)] }
def MessageCutsSaid : Prop := messageCutsRow.holds Tryz.pinned (OpenSpec.ofChange messageCutsSpec)

/-- ITS FALSE NEIGHBOUR: 'it returns false'. Refute it at one input. -/
def messageCutsWrong : ChangeSpec := { name := "messageCuts", fn := fun _ => fun
  | [d1, d2, d3] => { results := [.lit (.bool false)], args := [d1, d2, d3] }
  | _ => none }
def MessageCutsWrongFalsely : Prop := messageCutsRow.holds Tryz.pinned (OpenSpec.ofChange messageCutsWrong)

/-- 'norialaw05.MessageBack': WHATEVER THE INPUT: true; the input reads as it did. -/
def messageBackSpec : ChangeSpec := { name := "messageBack", fn := fun _ => fun
  | [d1, d2, d3, d4] => { results := [.lit (.bool true)], args := [d1, d2, d3, d4] }
  | _ => none }
def messageBackRow : OpenClaim := { program := "ytbdacbcpniegiaagreatdoor", sum := "14e19c8b08c24a3e3aa0c6ff5f1e33e5e52089e3e45bb371ff1061bb41658438", func := "noria/norialaw05.MessageBack", spec := "messageBack", inPlace := ["internal/bytealg.IndexByteString", "internal/bytealg.IndexString", "internal/abi.NoEscape", "internal/reflectlite.TypeOf"], unfollowed := true, recurses := true, named := ["unicode/utf8.first", "unicode/utf8.acceptRanges", "noria/message.errForm", "noria/wire.errShort", "noria/wire.errWrong", "noria/message.errKind", "internal/bytealg.MaxLen"], apart := false, laid := [("unicode/utf8.acceptRanges", laid_unicode_utf8_acceptRanges), ("noria/wire.errShort", laid_noria_wire_errShort), ("noria/wire.errWrong", laid_noria_wire_errWrong), ("noria/message.errKind", laid_noria_message_errKind), ("noria/message.errForm", laid_noria_message_errForm), ("unicode/utf8.first", laid_unicode_utf8_first)] }
def MessageBackSaid : Prop := messageBackRow.holds Tryz.pinned (OpenSpec.ofChange messageBackSpec)

/-- ITS FALSE NEIGHBOUR: 'it returns false'. Refute it at one input. -/
def messageBackWrong : ChangeSpec := { name := "messageBack", fn := fun _ => fun
  | [d1, d2, d3, d4] => { results := [.lit (.bool false)], args := [d1, d2, d3, d4] }
  | _ => none }
def MessageBackWrongFalsely : Prop := messageBackRow.holds Tryz.pinned (OpenSpec.ofChange messageBackWrong)

/- THE SECOND FORM. 'bulk': how many values and letters a reading holds, each counted each time it is reached (what is shared counts as often as it is met; a slice's spare places count too). A statement '..UptoSaid' is the law's where the arguments, and the package variables that the reading takes, are together of bulk at most 1048576: NARROWER than '..Said'. Prove '..Said' where nothing that the law and all that it calls make is longer than what came in: it says more and counts as full. Else prove '..UptoSaid'. A law counts once. -/
mutual
def uptoBulk {H : Type} : DataW H → Nat
  | .lit (.string bytes) => bytes.length + 1
  | .lit _ => 1
  | .nil => 1
  | .ptr d => uptoBulk d + 1
  | .slice elems spare => uptoBulkAll elems + uptoBulkAll spare + 1
  | .agg parts => uptoBulkAll parts + 1
  | .iface _ d => uptoBulk d + 1
  | .map entries => uptoBulkEntries entries + 1
  | .held _ => 1
def uptoBulkAll {H : Type} : List (DataW H) → Nat
  | [] => 0
  | d :: r => uptoBulk d + uptoBulkAll r
def uptoBulkEntries {H : Type} : List (Lit × DataW H) → Nat
  | [] => 0
  | x :: r => uptoBulkEntry x + uptoBulkEntries r
def uptoBulkEntry {H : Type} : Lit × DataW H → Nat
  | (.string bytes, d) => bytes.length + uptoBulk d + 1
  | (_, d) => uptoBulk d + 1
 end
def uptoSmall : (H : Type) → List (DataW H) → Bool := fun _ ds => decide (uptoBulkAll ds ≤ 1048576)
def OpenSpec.upto (s : _root_.Go.ChangeSpec) : _root_.Go.OpenSpec := { _root_.Go.OpenSpec.ofChange s with cond := some uptoSmall }

/-- 'norialaw05.MessageReqs', WHERE WHAT IT READS IS OF BULK AT MOST 1048576: true; the input reads as it did. -/
def messageReqsUptoRow : OpenClaim := { program := "ytbdacbcpniegiaagreatdoor", sum := "14e19c8b08c24a3e3aa0c6ff5f1e33e5e52089e3e45bb371ff1061bb41658438", func := "noria/norialaw05.MessageReqs", spec := "messageReqs", inPlace := ["internal/bytealg.IndexByteString", "internal/bytealg.IndexString", "internal/abi.NoEscape", "internal/reflectlite.TypeOf"], unfollowed := true, recurses := true, named := ["unicode/utf8.first", "unicode/utf8.acceptRanges", "noria/message.errForm", "noria/wire.errShort", "noria/wire.errWrong", "noria/message.errKind", "internal/bytealg.MaxLen"], apart := false, laid := [("unicode/utf8.acceptRanges", laid_unicode_utf8_acceptRanges), ("noria/wire.errShort", laid_noria_wire_errShort), ("noria/wire.errWrong", laid_noria_wire_errWrong), ("noria/message.errKind", laid_noria_message_errKind), ("noria/message.errForm", laid_noria_message_errForm), ("unicode/utf8.first", laid_unicode_utf8_first)], narrowed := true }
def MessageReqsUptoSaid : Prop := messageReqsUptoRow.holds Tryz.pinned (OpenSpec.upto messageReqsSpec)

/-- 'norialaw05.MessageSmall', WHERE WHAT IT READS IS OF BULK AT MOST 1048576: true; the input reads as it did. -/
def messageSmallUptoRow : OpenClaim := { program := "ytbdacbcpniegiaagreatdoor", sum := "14e19c8b08c24a3e3aa0c6ff5f1e33e5e52089e3e45bb371ff1061bb41658438", func := "noria/norialaw05.MessageSmall", spec := "messageSmall", inPlace := ["internal/bytealg.IndexByteString", "internal/bytealg.IndexString", "internal/abi.NoEscape", "internal/reflectlite.TypeOf"], unfollowed := true, recurses := true, named := ["unicode/utf8.first", "unicode/utf8.acceptRanges", "noria/message.errForm", "noria/wire.errShort", "noria/wire.errWrong", "noria/message.errKind", "internal/bytealg.MaxLen"], apart := false, laid := [("unicode/utf8.acceptRanges", laid_unicode_utf8_acceptRanges), ("noria/wire.errShort", laid_noria_wire_errShort), ("noria/wire.errWrong", laid_noria_wire_errWrong), ("noria/message.errKind", laid_noria_message_errKind), ("noria/message.errForm", laid_noria_message_errForm), ("unicode/utf8.first", laid_unicode_utf8_first)], narrowed := true }
def MessageSmallUptoSaid : Prop := messageSmallUptoRow.holds Tryz.pinned (OpenSpec.upto messageSmallSpec)

/-- 'norialaw05.MessageResps', WHERE WHAT IT READS IS OF BULK AT MOST 1048576: true; the input reads as it did. -/
def messageRespsUptoRow : OpenClaim := { program := "ytbdacbcpniegiaagreatdoor", sum := "14e19c8b08c24a3e3aa0c6ff5f1e33e5e52089e3e45bb371ff1061bb41658438", func := "noria/norialaw05.MessageResps", spec := "messageResps", inPlace := ["internal/bytealg.IndexByteString", "internal/bytealg.IndexString", "internal/abi.NoEscape", "internal/reflectlite.TypeOf"], unfollowed := true, recurses := true, named := ["unicode/utf8.first", "unicode/utf8.acceptRanges", "noria/message.errForm", "noria/wire.errShort", "noria/wire.errWrong", "noria/message.errKind", "internal/bytealg.MaxLen"], apart := false, laid := [("unicode/utf8.acceptRanges", laid_unicode_utf8_acceptRanges), ("noria/wire.errShort", laid_noria_wire_errShort), ("noria/wire.errWrong", laid_noria_wire_errWrong), ("noria/message.errKind", laid_noria_message_errKind), ("noria/message.errForm", laid_noria_message_errForm), ("unicode/utf8.first", laid_unicode_utf8_first)], narrowed := true }
def MessageRespsUptoSaid : Prop := messageRespsUptoRow.holds Tryz.pinned (OpenSpec.upto messageRespsSpec)

/-- 'norialaw05.MessageCuts', WHERE WHAT IT READS IS OF BULK AT MOST 1048576: true; the input reads as it did. -/
def messageCutsUptoRow : OpenClaim := { program := "ytbdacbcpniegiaagreatdoor", sum := "14e19c8b08c24a3e3aa0c6ff5f1e33e5e52089e3e45bb371ff1061bb41658438", func := "noria/norialaw05.MessageCuts", spec := "messageCuts", inPlace := ["internal/bytealg.IndexByteString", "internal/bytealg.IndexString", "internal/abi.NoEscape", "internal/reflectlite.TypeOf"], unfollowed := true, recurses := true, named := ["unicode/utf8.first", "unicode/utf8.acceptRanges", "noria/message.errForm", "noria/wire.errShort", "noria/wire.errWrong", "noria/message.errKind", "internal/bytealg.MaxLen"], apart := false, laid := [("unicode/utf8.acceptRanges", laid_unicode_utf8_acceptRanges), ("noria/wire.errShort", laid_noria_wire_errShort), ("noria/wire.errWrong", laid_noria_wire_errWrong), ("noria/message.errKind", laid_noria_message_errKind), ("noria/message.errForm", laid_noria_message_errForm), ("unicode/utf8.first", laid_unicode_utf8_first)], narrowed := true }
def MessageCutsUptoSaid : Prop := messageCutsUptoRow.holds Tryz.pinned (OpenSpec.upto messageCutsSpec)

/-- 'norialaw05.MessageBack', WHERE WHAT IT READS IS OF BULK AT MOST 1048576: true; the input reads as it did. -/
def messageBackUptoRow : OpenClaim := { program := "ytbdacbcpniegiaagreatdoor", sum := "14e19c8b08c24a3e3aa0c6ff5f1e33e5e52089e3e45bb371ff1061bb41658438", func := "noria/norialaw05.MessageBack", spec := "messageBack", inPlace := ["internal/bytealg.IndexByteString", "internal/bytealg.IndexString", "internal/abi.NoEscape", "internal/reflectlite.TypeOf"], unfollowed := true, recurses := true, named := ["unicode/utf8.first", "unicode/utf8.acceptRanges", "noria/message.errForm", "noria/wire.errShort", "noria/wire.errWrong", "noria/message.errKind", "internal/bytealg.MaxLen"], apart := false, laid := [("unicode/utf8.acceptRanges", laid_unicode_utf8_acceptRanges), ("noria/wire.errShort", laid_noria_wire_errShort), ("noria/wire.errWrong", laid_noria_wire_errWrong), ("noria/message.errKind", laid_noria_message_errKind), ("noria/message.errForm", laid_noria_message_errForm), ("unicode/utf8.first", laid_unicode_utf8_first)], narrowed := true }
def MessageBackUptoSaid : Prop := messageBackUptoRow.holds Tryz.pinned (OpenSpec.upto messageBackSpec)

end Rows
end Go.Proofs.YtbdacbcpniegiaaGreatDoor
