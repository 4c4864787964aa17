/-
  NARROWER THAN 'FOR EVERY INPUT', by the rows' own cells (each row's printed sentence says how): ConnChecks: laid · ConnReceives: laid · ConnExpires: laid · ConnSequence: laid.
  DERIVED. THE GIVEN ROWS OF THIS SEAT. 4 by the template 'for every input the law returns true; each argument reads behind the call as it read before'; 0 by the template 'total and deterministic' (their statements: YthdnhkmigddbgaaDoorTotals.lean).
  GIVEN WITH THE SEED: the statements are not yours to turn. If you find one false, say at which input.
  Laid BY PROGRAM, IN A SANDBOX (cutbox-rows.mjs): the forced cells as the released guide's own fill.sh prints them over the translation b5ad314a35ac3717… (all of the seat's roots in one cut). By AI agents, Wed Nov 11 2026. No macro, syntax, notation, axiom, sorry.
-/
import Derived.Test.YthdnhkmigddbgaaDoorChecked
import GoSem.PinnedTables
import GoSem.Claim
import GoSem.ClaimJoined
import GoSem.ClaimMapViews
import Derived.JoinedTies
import Derived.KernelRfl
namespace Go.Proofs.YthdnhkmigddbgaaDoor
/- THE CELL 'sum', in the pinned program and in every row, IS THE sha256 OF THE DUMP (.gsa) THAT YthdnhkmigddbgaaDoorProg.lean LOADS. Nothing in Lean hashes anything: it is a label: what it is worth is what the hold of that sum in a sandbox is worth. -/
noncomputable def Tryd.pinned : Pinned := { name := "ythdnhkmigddbgaadoor", sum := "b5ad314a35ac371712e6a3f0aca2482f1b61414ef7983823c6fc2940ab420f44", checked := Tryd.checked }
namespace Rows
def none {H : Type} : Left H := { results := [], args := [] }

/- WHAT THE LISTED PACKAGE-LEVEL VARIABLES READ AS WHEN THE CALL BEGINS. Each datum BY PROGRAM (the guide's laid-datum.mjs) off the statement by which the dump's own 'gosem.cut.vars' lays the variable. In a bare row this is a premise. The card (YthdnhkmigddbgaaDoorCards.lean) ties it to the program's text. -/
def laid_unicode_utf8_acceptRanges {H : Type} : DataW H := .agg [.agg [.lit (.int .u8 128), .lit (.int .u8 191)], .agg [.lit (.int .u8 160), .lit (.int .u8 191)], .agg [.lit (.int .u8 128), .lit (.int .u8 159)], .agg [.lit (.int .u8 144), .lit (.int .u8 191)], .agg [.lit (.int .u8 128), .lit (.int .u8 143)], .agg [.lit (.int .u8 0), .lit (.int .u8 0)], .agg [.lit (.int .u8 0), .lit (.int .u8 0)], .agg [.lit (.int .u8 0), .lit (.int .u8 0)], .agg [.lit (.int .u8 0), .lit (.int .u8 0)], .agg [.lit (.int .u8 0), .lit (.int .u8 0)], .agg [.lit (.int .u8 0), .lit (.int .u8 0)], .agg [.lit (.int .u8 0), .lit (.int .u8 0)], .agg [.lit (.int .u8 0), .lit (.int .u8 0)], .agg [.lit (.int .u8 0), .lit (.int .u8 0)], .agg [.lit (.int .u8 0), .lit (.int .u8 0)], .agg [.lit (.int .u8 0), .lit (.int .u8 0)]]
/-- One of Go's own tables, pinned by name: the form's constant. -/
def laid_unicode_utf8_first : DataW Unit := Go.Pinned.utf8First

/-- 'brokerlaw49.ConnChecks': WHATEVER THE INPUT: true; the input reads as it did. -/
def connChecksSpec : ChangeSpec := { name := "connChecks", fn := fun _ => fun
  | [d1, d2, d3] => { results := [.lit (.bool true)], args := [d1, d2, d3] }
  | _ => none }
def connChecksRow : OpenClaim := { program := "ythdnhkmigddbgaadoor", sum := "b5ad314a35ac371712e6a3f0aca2482f1b61414ef7983823c6fc2940ab420f44", func := "broker/brokerlaw49.ConnChecks", spec := "connChecks", inPlace := ["internal/bytealg.IndexByteString", "internal/bytealg.IndexString", "internal/bytealg.CountString"], named := ["internal/bytealg.MaxLen", "unicode/utf8.first", "unicode/utf8.acceptRanges"], apart := false, laid := [("unicode/utf8.acceptRanges", laid_unicode_utf8_acceptRanges), ("unicode/utf8.first", laid_unicode_utf8_first)] }
def ConnChecksSaid : Prop := connChecksRow.holds Tryd.pinned (OpenSpec.ofChange connChecksSpec)

/-- ITS FALSE NEIGHBOUR: 'it returns false'. Refute it at one input. -/
def connChecksWrong : ChangeSpec := { name := "connChecks", fn := fun _ => fun
  | [d1, d2, d3] => { results := [.lit (.bool false)], args := [d1, d2, d3] }
  | _ => none }
def ConnChecksWrongFalsely : Prop := connChecksRow.holds Tryd.pinned (OpenSpec.ofChange connChecksWrong)

/-- 'brokerlaw49.ConnReceives': WHATEVER THE INPUT: true; the input reads as it did. -/
def connReceivesSpec : ChangeSpec := { name := "connReceives", fn := fun _ => fun
  | [d1, d2, d3] => { results := [.lit (.bool true)], args := [d1, d2, d3] }
  | _ => none }
def connReceivesRow : OpenClaim := { program := "ythdnhkmigddbgaadoor", sum := "b5ad314a35ac371712e6a3f0aca2482f1b61414ef7983823c6fc2940ab420f44", func := "broker/brokerlaw49.ConnReceives", spec := "connReceives", inPlace := ["internal/bytealg.IndexByteString", "internal/bytealg.IndexString", "internal/bytealg.CountString"], named := ["internal/bytealg.MaxLen", "unicode/utf8.first", "unicode/utf8.acceptRanges"], apart := false, laid := [("unicode/utf8.acceptRanges", laid_unicode_utf8_acceptRanges), ("unicode/utf8.first", laid_unicode_utf8_first)] }
def ConnReceivesSaid : Prop := connReceivesRow.holds Tryd.pinned (OpenSpec.ofChange connReceivesSpec)

/-- ITS FALSE NEIGHBOUR: 'it returns false'. Refute it at one input. -/
def connReceivesWrong : ChangeSpec := { name := "connReceives", fn := fun _ => fun
  | [d1, d2, d3] => { results := [.lit (.bool false)], args := [d1, d2, d3] }
  | _ => none }
def ConnReceivesWrongFalsely : Prop := connReceivesRow.holds Tryd.pinned (OpenSpec.ofChange connReceivesWrong)

/-- 'brokerlaw49.ConnExpires': WHATEVER THE INPUT: true; the input reads as it did. -/
def connExpiresSpec : ChangeSpec := { name := "connExpires", fn := fun _ => fun
  | [d1, d2] => { results := [.lit (.bool true)], args := [d1, d2] }
  | _ => none }
def connExpiresRow : OpenClaim := { program := "ythdnhkmigddbgaadoor", sum := "b5ad314a35ac371712e6a3f0aca2482f1b61414ef7983823c6fc2940ab420f44", func := "broker/brokerlaw49.ConnExpires", spec := "connExpires", inPlace := ["internal/bytealg.IndexByteString", "internal/bytealg.IndexString", "internal/bytealg.CountString"], named := ["internal/bytealg.MaxLen", "unicode/utf8.first", "unicode/utf8.acceptRanges"], apart := false, laid := [("unicode/utf8.acceptRanges", laid_unicode_utf8_acceptRanges), ("unicode/utf8.first", laid_unicode_utf8_first)] }
def ConnExpiresSaid : Prop := connExpiresRow.holds Tryd.pinned (OpenSpec.ofChange connExpiresSpec)

/-- ITS FALSE NEIGHBOUR: 'it returns false'. Refute it at one input. -/
def connExpiresWrong : ChangeSpec := { name := "connExpires", fn := fun _ => fun
  | [d1, d2] => { results := [.lit (.bool false)], args := [d1, d2] }
  | _ => none }
def ConnExpiresWrongFalsely : Prop := connExpiresRow.holds Tryd.pinned (OpenSpec.ofChange connExpiresWrong)

/-- 'brokerlaw49.ConnSequence': WHATEVER THE INPUT: true; the input reads as it did. -/
def connSequenceSpec : ChangeSpec := { name := "connSequence", fn := fun _ => fun
  | [d] => { results := [.lit (.bool true)], args := [d] }
  | _ => none }
def connSequenceRow : OpenClaim := { program := "ythdnhkmigddbgaadoor", sum := "b5ad314a35ac371712e6a3f0aca2482f1b61414ef7983823c6fc2940ab420f44", func := "broker/brokerlaw49.ConnSequence", spec := "connSequence", inPlace := ["internal/bytealg.IndexByteString", "internal/bytealg.IndexString", "internal/bytealg.CountString"], named := ["internal/bytealg.MaxLen", "unicode/utf8.first", "unicode/utf8.acceptRanges"], apart := false, laid := [("unicode/utf8.acceptRanges", laid_unicode_utf8_acceptRanges), ("unicode/utf8.first", laid_unicode_utf8_first)] }
def ConnSequenceSaid : Prop := connSequenceRow.holds Tryd.pinned (OpenSpec.ofChange connSequenceSpec)

/-- ITS FALSE NEIGHBOUR: 'it returns false'. Refute it at one input. -/
def connSequenceWrong : ChangeSpec := { name := "connSequence", fn := fun _ => fun
  | [d] => { results := [.lit (.bool false)], args := [d] }
  | _ => none }
def ConnSequenceWrongFalsely : Prop := connSequenceRow.holds Tryd.pinned (OpenSpec.ofChange connSequenceWrong)

/- THE SECOND FORM. 'bulk': how many values and letters a reading holds, each counted each time it is reached (what is shared counts as often as it is met; a slice's spare places count too). A statement '..UptoSaid' is the law's where the arguments, and the package variables that the reading takes, are together of bulk at most 1048576: NARROWER than '..Said'. Prove '..Said' where nothing that the law and all that it calls make is longer than what came in: it says more and counts as full. Else prove '..UptoSaid'. A law counts once. -/
mutual
def uptoBulk {H : Type} : DataW H → Nat
  | .lit (.string bytes) => bytes.length + 1
  | .lit _ => 1
  | .nil => 1
  | .ptr d => uptoBulk d + 1
  | .slice elems spare => uptoBulkAll elems + uptoBulkAll spare + 1
  | .agg parts => uptoBulkAll parts + 1
  | .iface _ d => uptoBulk d + 1
  | .map entries => uptoBulkEntries entries + 1
  | .held _ => 1
def uptoBulkAll {H : Type} : List (DataW H) → Nat
  | [] => 0
  | d :: r => uptoBulk d + uptoBulkAll r
def uptoBulkEntries {H : Type} : List (Lit × DataW H) → Nat
  | [] => 0
  | x :: r => uptoBulkEntry x + uptoBulkEntries r
def uptoBulkEntry {H : Type} : Lit × DataW H → Nat
  | (.string bytes, d) => bytes.length + uptoBulk d + 1
  | (_, d) => uptoBulk d + 1
 end
def uptoSmall : (H : Type) → List (DataW H) → Bool := fun _ ds => decide (uptoBulkAll ds ≤ 1048576)
def OpenSpec.upto (s : _root_.Go.ChangeSpec) : _root_.Go.OpenSpec := { _root_.Go.OpenSpec.ofChange s with cond := some uptoSmall }

/-- 'brokerlaw49.ConnChecks', WHERE WHAT IT READS IS OF BULK AT MOST 1048576: true; the input reads as it did. -/
def connChecksUptoRow : OpenClaim := { program := "ythdnhkmigddbgaadoor", sum := "b5ad314a35ac371712e6a3f0aca2482f1b61414ef7983823c6fc2940ab420f44", func := "broker/brokerlaw49.ConnChecks", spec := "connChecks", inPlace := ["internal/bytealg.IndexByteString", "internal/bytealg.IndexString", "internal/bytealg.CountString"], named := ["internal/bytealg.MaxLen", "unicode/utf8.first", "unicode/utf8.acceptRanges"], apart := false, laid := [("unicode/utf8.acceptRanges", laid_unicode_utf8_acceptRanges), ("unicode/utf8.first", laid_unicode_utf8_first)], narrowed := true }
def ConnChecksUptoSaid : Prop := connChecksUptoRow.holds Tryd.pinned (OpenSpec.upto connChecksSpec)

/-- 'brokerlaw49.ConnReceives', WHERE WHAT IT READS IS OF BULK AT MOST 1048576: true; the input reads as it did. -/
def connReceivesUptoRow : OpenClaim := { program := "ythdnhkmigddbgaadoor", sum := "b5ad314a35ac371712e6a3f0aca2482f1b61414ef7983823c6fc2940ab420f44", func := "broker/brokerlaw49.ConnReceives", spec := "connReceives", inPlace := ["internal/bytealg.IndexByteString", "internal/bytealg.IndexString", "internal/bytealg.CountString"], named := ["internal/bytealg.MaxLen", "unicode/utf8.first", "unicode/utf8.acceptRanges"], apart := false, laid := [("unicode/utf8.acceptRanges", laid_unicode_utf8_acceptRanges), ("unicode/utf8.first", laid_unicode_utf8_first)], narrowed := true }
def ConnReceivesUptoSaid : Prop := connReceivesUptoRow.holds Tryd.pinned (OpenSpec.upto connReceivesSpec)

/-- 'brokerlaw49.ConnExpires', WHERE WHAT IT READS IS OF BULK AT MOST 1048576: true; the input reads as it did. -/
def connExpiresUptoRow : OpenClaim := { program := "ythdnhkmigddbgaadoor", sum := "b5ad314a35ac371712e6a3f0aca2482f1b61414ef7983823c6fc2940ab420f44", func := "broker/brokerlaw49.ConnExpires", spec := "connExpires", inPlace := ["internal/bytealg.IndexByteString", "internal/bytealg.IndexString", "internal/bytealg.CountString"], named := ["internal/bytealg.MaxLen", "unicode/utf8.first", "unicode/utf8.acceptRanges"], apart := false, laid := [("unicode/utf8.acceptRanges", laid_unicode_utf8_acceptRanges), ("unicode/utf8.first", laid_unicode_utf8_first)], narrowed := true }
def ConnExpiresUptoSaid : Prop := connExpiresUptoRow.holds Tryd.pinned (OpenSpec.upto connExpiresSpec)

/-- 'brokerlaw49.ConnSequence', WHERE WHAT IT READS IS OF BULK AT MOST 1048576: true; the input reads as it did. -/
def connSequenceUptoRow : OpenClaim := { program := "ythdnhkmigddbgaadoor", sum := "b5ad314a35ac371712e6a3f0aca2482f1b61414ef7983823c6fc2940ab420f44", func := "broker/brokerlaw49.ConnSequence", spec := "connSequence", inPlace := ["internal/bytealg.IndexByteString", "internal/bytealg.IndexString", "internal/bytealg.CountString"], named := ["internal/bytealg.MaxLen", "unicode/utf8.first", "unicode/utf8.acceptRanges"], apart := false, laid := [("unicode/utf8.acceptRanges", laid_unicode_utf8_acceptRanges), ("unicode/utf8.first", laid_unicode_utf8_first)], narrowed := true }
def ConnSequenceUptoSaid : Prop := connSequenceUptoRow.holds Tryd.pinned (OpenSpec.upto connSequenceSpec)

end Rows
end Go.Proofs.YthdnhkmigddbgaaDoor
