/-
  NARROWER THAN 'FOR EVERY INPUT', by the rows' own cells (each row's printed sentence says how): InboundAccepts: laid · InboundRuns: laid · InboundOnce: laid · InboundFull: laid.
  DERIVED. THE GIVEN ROWS OF THIS SEAT. 4 by the template 'for every input the law returns true; each argument reads behind the call as it read before'; 0 by the template 'total and deterministic' (their statements: YtcfpheihkbkloaaGreatDoorTotals.lean).
  GIVEN WITH THE SEED: the statements are not yours to turn. If you find one false, say at which input.
  Laid BY PROGRAM, IN A SANDBOX (cutbox-rows.mjs): the forced cells as the released guide's own fill.sh prints them over the translation 5440ee124aa1e80f… (all of the seat's roots in one cut). By AI agents, Wed Nov 11 2026. No macro, syntax, notation, axiom, sorry.
-/
import Derived.Test.YtcfpheihkbkloaaGreatDoorChecked
import GoSem.PinnedTables
import GoSem.Claim
import GoSem.ClaimJoined
import GoSem.ClaimMapViews
import Derived.JoinedTies
import Derived.KernelRfl
namespace Go.Proofs.YtcfpheihkbkloaaGreatDoor
/- THE CELL 'sum', in the pinned program and in every row, IS THE sha256 OF THE DUMP (.gsa) THAT YtcfpheihkbkloaaGreatDoorProg.lean LOADS. Nothing in Lean hashes anything: it is a label: what it is worth is what the hold of that sum in a sandbox is worth. -/
noncomputable def Tryz.pinned : Pinned := { name := "ytcfpheihkbkloaagreatdoor", sum := "5440ee124aa1e80f3ebf992c248e25c031a938a0aaf77a6acccbd742bc405220", checked := Tryz.checked }
namespace Rows
def none {H : Type} : Left H := { results := [], args := [] }

/- WHAT THE LISTED PACKAGE-LEVEL VARIABLES READ AS WHEN THE CALL BEGINS. Each datum BY PROGRAM (the guide's laid-datum.mjs) off the statement by which the dump's own 'gosem.cut.vars' lays the variable. In a bare row this is a premise. The card (YtcfpheihkbkloaaGreatDoorCards.lean) ties it to the program's text. -/
def laid_unicode_utf8_acceptRanges {H : Type} : DataW H := .agg [.agg [.lit (.int .u8 128), .lit (.int .u8 191)], .agg [.lit (.int .u8 160), .lit (.int .u8 191)], .agg [.lit (.int .u8 128), .lit (.int .u8 159)], .agg [.lit (.int .u8 144), .lit (.int .u8 191)], .agg [.lit (.int .u8 128), .lit (.int .u8 143)], .agg [.lit (.int .u8 0), .lit (.int .u8 0)], .agg [.lit (.int .u8 0), .lit (.int .u8 0)], .agg [.lit (.int .u8 0), .lit (.int .u8 0)], .agg [.lit (.int .u8 0), .lit (.int .u8 0)], .agg [.lit (.int .u8 0), .lit (.int .u8 0)], .agg [.lit (.int .u8 0), .lit (.int .u8 0)], .agg [.lit (.int .u8 0), .lit (.int .u8 0)], .agg [.lit (.int .u8 0), .lit (.int .u8 0)], .agg [.lit (.int .u8 0), .lit (.int .u8 0)], .agg [.lit (.int .u8 0), .lit (.int .u8 0)], .agg [.lit (.int .u8 0), .lit (.int .u8 0)]]
/-- One of Go's own tables, pinned by name: the form's constant. -/
def laid_unicode_utf8_first : DataW Unit := Go.Pinned.utf8First

/-- 'brokerlaw15.InboundAccepts': WHATEVER THE INPUT: true; the input reads as it did. -/
def inboundAcceptsSpec : ChangeSpec := { name := "inboundAccepts", fn := fun _ => fun
  | [d1, d2] => { results := [.lit (.bool true)], args := [d1, d2] }
  | _ => none }
def inboundAcceptsRow : OpenClaim := { program := "ytcfpheihkbkloaagreatdoor", sum := "5440ee124aa1e80f3ebf992c248e25c031a938a0aaf77a6acccbd742bc405220", func := "broker/brokerlaw15.InboundAccepts", spec := "inboundAccepts", inPlace := ["internal/bytealg.IndexByteString", "internal/bytealg.IndexString", "internal/bytealg.CountString", "slices.overlaps[int]"], named := ["internal/bytealg.MaxLen", "unicode/utf8.first", "unicode/utf8.acceptRanges"], apart := false, laid := [("unicode/utf8.acceptRanges", laid_unicode_utf8_acceptRanges), ("unicode/utf8.first", laid_unicode_utf8_first)] }
def InboundAcceptsSaid : Prop := inboundAcceptsRow.holds Tryz.pinned (OpenSpec.ofChange inboundAcceptsSpec)

/-- ITS FALSE NEIGHBOUR: 'it returns false'. Refute it at one input. -/
def inboundAcceptsWrong : ChangeSpec := { name := "inboundAccepts", fn := fun _ => fun
  | [d1, d2] => { results := [.lit (.bool false)], args := [d1, d2] }
  | _ => none }
def InboundAcceptsWrongFalsely : Prop := inboundAcceptsRow.holds Tryz.pinned (OpenSpec.ofChange inboundAcceptsWrong)

/-- 'brokerlaw15.InboundRuns': WHATEVER THE INPUT: true; the input reads as it did. -/
def inboundRunsSpec : ChangeSpec := { name := "inboundRuns", fn := fun _ => fun
  | [d] => { results := [.lit (.bool true)], args := [d] }
  | _ => none }
def inboundRunsRow : OpenClaim := { program := "ytcfpheihkbkloaagreatdoor", sum := "5440ee124aa1e80f3ebf992c248e25c031a938a0aaf77a6acccbd742bc405220", func := "broker/brokerlaw15.InboundRuns", spec := "inboundRuns", inPlace := ["internal/bytealg.IndexByteString", "internal/bytealg.IndexString", "internal/bytealg.CountString", "slices.overlaps[int]"], named := ["internal/bytealg.MaxLen", "unicode/utf8.first", "unicode/utf8.acceptRanges"], apart := false, laid := [("unicode/utf8.acceptRanges", laid_unicode_utf8_acceptRanges), ("unicode/utf8.first", laid_unicode_utf8_first)] }
def InboundRunsSaid : Prop := inboundRunsRow.holds Tryz.pinned (OpenSpec.ofChange inboundRunsSpec)

/-- ITS FALSE NEIGHBOUR: 'it returns false'. Refute it at one input. -/
def inboundRunsWrong : ChangeSpec := { name := "inboundRuns", fn := fun _ => fun
  | [d] => { results := [.lit (.bool false)], args := [d] }
  | _ => none }
def InboundRunsWrongFalsely : Prop := inboundRunsRow.holds Tryz.pinned (OpenSpec.ofChange inboundRunsWrong)

/-- 'brokerlaw15.InboundOnce': WHATEVER THE INPUT: true; the input reads as it did. -/
def inboundOnceSpec : ChangeSpec := { name := "inboundOnce", fn := fun _ => fun
  | [d1, d2, d3, d4] => { results := [.lit (.bool true)], args := [d1, d2, d3, d4] }
  | _ => none }
def inboundOnceRow : OpenClaim := { program := "ytcfpheihkbkloaagreatdoor", sum := "5440ee124aa1e80f3ebf992c248e25c031a938a0aaf77a6acccbd742bc405220", func := "broker/brokerlaw15.InboundOnce", spec := "inboundOnce", inPlace := ["internal/bytealg.IndexByteString", "internal/bytealg.IndexString", "internal/bytealg.CountString", "slices.overlaps[int]"], named := ["internal/bytealg.MaxLen", "unicode/utf8.first", "unicode/utf8.acceptRanges"], apart := false, laid := [("unicode/utf8.acceptRanges", laid_unicode_utf8_acceptRanges), ("unicode/utf8.first", laid_unicode_utf8_first)] }
def InboundOnceSaid : Prop := inboundOnceRow.holds Tryz.pinned (OpenSpec.ofChange inboundOnceSpec)

/-- ITS FALSE NEIGHBOUR: 'it returns false'. Refute it at one input. -/
def inboundOnceWrong : ChangeSpec := { name := "inboundOnce", fn := fun _ => fun
  | [d1, d2, d3, d4] => { results := [.lit (.bool false)], args := [d1, d2, d3, d4] }
  | _ => none }
def InboundOnceWrongFalsely : Prop := inboundOnceRow.holds Tryz.pinned (OpenSpec.ofChange inboundOnceWrong)

/-- 'brokerlaw15.InboundFull': WHATEVER THE INPUT: true; the input reads as it did. -/
def inboundFullSpec : ChangeSpec := { name := "inboundFull", fn := fun _ => fun
  | [d1, d2, d3] => { results := [.lit (.bool true)], args := [d1, d2, d3] }
  | _ => none }
def inboundFullRow : OpenClaim := { program := "ytcfpheihkbkloaagreatdoor", sum := "5440ee124aa1e80f3ebf992c248e25c031a938a0aaf77a6acccbd742bc405220", func := "broker/brokerlaw15.InboundFull", spec := "inboundFull", inPlace := ["internal/bytealg.IndexByteString", "internal/bytealg.IndexString", "internal/bytealg.CountString", "slices.overlaps[int]"], named := ["internal/bytealg.MaxLen", "unicode/utf8.first", "unicode/utf8.acceptRanges"], apart := false, laid := [("unicode/utf8.acceptRanges", laid_unicode_utf8_acceptRanges), ("unicode/utf8.first", laid_unicode_utf8_first)] }
def InboundFullSaid : Prop := inboundFullRow.holds Tryz.pinned (OpenSpec.ofChange inboundFullSpec)

/-- ITS FALSE NEIGHBOUR: 'it returns false'. Refute it at one input. -/
def inboundFullWrong : ChangeSpec := { name := "inboundFull", fn := fun _ => fun
  | [d1, d2, d3] => { results := [.lit (.bool false)], args := [d1, d2, d3] }
  | _ => none }
def InboundFullWrongFalsely : Prop := inboundFullRow.holds Tryz.pinned (OpenSpec.ofChange inboundFullWrong)

/- THE SECOND FORM. 'bulk': how many values and letters a reading holds, each counted each time it is reached (what is shared counts as often as it is met; a slice's spare places count too). A statement '..UptoSaid' is the law's where the arguments, and the package variables that the reading takes, are together of bulk at most 1048576: NARROWER than '..Said'. Prove '..Said' where nothing that the law and all that it calls make is longer than what came in: it says more and counts as full. Else prove '..UptoSaid'. A law counts once. -/
mutual
def uptoBulk {H : Type} : DataW H → Nat
  | .lit (.string bytes) => bytes.length + 1
  | .lit _ => 1
  | .nil => 1
  | .ptr d => uptoBulk d + 1
  | .slice elems spare => uptoBulkAll elems + uptoBulkAll spare + 1
  | .agg parts => uptoBulkAll parts + 1
  | .iface _ d => uptoBulk d + 1
  | .map entries => uptoBulkEntries entries + 1
  | .held _ => 1
def uptoBulkAll {H : Type} : List (DataW H) → Nat
  | [] => 0
  | d :: r => uptoBulk d + uptoBulkAll r
def uptoBulkEntries {H : Type} : List (Lit × DataW H) → Nat
  | [] => 0
  | x :: r => uptoBulkEntry x + uptoBulkEntries r
def uptoBulkEntry {H : Type} : Lit × DataW H → Nat
  | (.string bytes, d) => bytes.length + uptoBulk d + 1
  | (_, d) => uptoBulk d + 1
 end
def uptoSmall : (H : Type) → List (DataW H) → Bool := fun _ ds => decide (uptoBulkAll ds ≤ 1048576)
def OpenSpec.upto (s : _root_.Go.ChangeSpec) : _root_.Go.OpenSpec := { _root_.Go.OpenSpec.ofChange s with cond := some uptoSmall }

/-- 'brokerlaw15.InboundAccepts', WHERE WHAT IT READS IS OF BULK AT MOST 1048576: true; the input reads as it did. -/
def inboundAcceptsUptoRow : OpenClaim := { program := "ytcfpheihkbkloaagreatdoor", sum := "5440ee124aa1e80f3ebf992c248e25c031a938a0aaf77a6acccbd742bc405220", func := "broker/brokerlaw15.InboundAccepts", spec := "inboundAccepts", inPlace := ["internal/bytealg.IndexByteString", "internal/bytealg.IndexString", "internal/bytealg.CountString", "slices.overlaps[int]"], named := ["internal/bytealg.MaxLen", "unicode/utf8.first", "unicode/utf8.acceptRanges"], apart := false, laid := [("unicode/utf8.acceptRanges", laid_unicode_utf8_acceptRanges), ("unicode/utf8.first", laid_unicode_utf8_first)], narrowed := true }
def InboundAcceptsUptoSaid : Prop := inboundAcceptsUptoRow.holds Tryz.pinned (OpenSpec.upto inboundAcceptsSpec)

/-- 'brokerlaw15.InboundRuns', WHERE WHAT IT READS IS OF BULK AT MOST 1048576: true; the input reads as it did. -/
def inboundRunsUptoRow : OpenClaim := { program := "ytcfpheihkbkloaagreatdoor", sum := "5440ee124aa1e80f3ebf992c248e25c031a938a0aaf77a6acccbd742bc405220", func := "broker/brokerlaw15.InboundRuns", spec := "inboundRuns", inPlace := ["internal/bytealg.IndexByteString", "internal/bytealg.IndexString", "internal/bytealg.CountString", "slices.overlaps[int]"], named := ["internal/bytealg.MaxLen", "unicode/utf8.first", "unicode/utf8.acceptRanges"], apart := false, laid := [("unicode/utf8.acceptRanges", laid_unicode_utf8_acceptRanges), ("unicode/utf8.first", laid_unicode_utf8_first)], narrowed := true }
def InboundRunsUptoSaid : Prop := inboundRunsUptoRow.holds Tryz.pinned (OpenSpec.upto inboundRunsSpec)

/-- 'brokerlaw15.InboundOnce', WHERE WHAT IT READS IS OF BULK AT MOST 1048576: true; the input reads as it did. -/
def inboundOnceUptoRow : OpenClaim := { program := "ytcfpheihkbkloaagreatdoor", sum := "5440ee124aa1e80f3ebf992c248e25c031a938a0aaf77a6acccbd742bc405220", func := "broker/brokerlaw15.InboundOnce", spec := "inboundOnce", inPlace := ["internal/bytealg.IndexByteString", "internal/bytealg.IndexString", "internal/bytealg.CountString", "slices.overlaps[int]"], named := ["internal/bytealg.MaxLen", "unicode/utf8.first", "unicode/utf8.acceptRanges"], apart := false, laid := [("unicode/utf8.acceptRanges", laid_unicode_utf8_acceptRanges), ("unicode/utf8.first", laid_unicode_utf8_first)], narrowed := true }
def InboundOnceUptoSaid : Prop := inboundOnceUptoRow.holds Tryz.pinned (OpenSpec.upto inboundOnceSpec)

/-- 'brokerlaw15.InboundFull', WHERE WHAT IT READS IS OF BULK AT MOST 1048576: true; the input reads as it did. -/
def inboundFullUptoRow : OpenClaim := { program := "ytcfpheihkbkloaagreatdoor", sum := "5440ee124aa1e80f3ebf992c248e25c031a938a0aaf77a6acccbd742bc405220", func := "broker/brokerlaw15.InboundFull", spec := "inboundFull", inPlace := ["internal/bytealg.IndexByteString", "internal/bytealg.IndexString", "internal/bytealg.CountString", "slices.overlaps[int]"], named := ["internal/bytealg.MaxLen", "unicode/utf8.first", "unicode/utf8.acceptRanges"], apart := false, laid := [("unicode/utf8.acceptRanges", laid_unicode_utf8_acceptRanges), ("unicode/utf8.first", laid_unicode_utf8_first)], narrowed := true }
def InboundFullUptoSaid : Prop := inboundFullUptoRow.holds Tryz.pinned (OpenSpec.upto inboundFullSpec)

end Rows
end Go.Proofs.YtcfpheihkbkloaaGreatDoor
