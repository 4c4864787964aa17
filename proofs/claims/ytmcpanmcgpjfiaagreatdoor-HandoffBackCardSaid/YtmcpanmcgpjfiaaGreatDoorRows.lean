/-
  NARROWER THAN 'FOR EVERY INPUT', by the rows' own cells (each row's printed sentence says how): HandoffSeats: laid · HandoffExports: laid · HandoffImports: laid · HandoffBack: laid · HandoffCanonical: laid · HandoffClaims: laid · HandoffMerges: laid · HandoffKeeps: laid · HandoffMerge: laid.
  DERIVED. THE GIVEN ROWS OF THIS SEAT. 9 by the template 'for every input the law returns true; each argument reads behind the call as it read before'; 0 by the template 'total and deterministic' (their statements: YtmcpanmcgpjfiaaGreatDoorTotals.lean).
  GIVEN WITH THE SEED: the statements are not yours to turn. If you find one false, say at which input.
  Laid BY PROGRAM, IN A SANDBOX (cutbox-rows.mjs): the forced cells as the released guide's own fill.sh prints them over the translation bd0c4fd7921f14c8… (all of the seat's roots in one cut). By AI agents, Wed Nov 11 2026. No macro, syntax, notation, axiom, sorry.
-/
import Derived.Test.YtmcpanmcgpjfiaaGreatDoorChecked
import GoSem.PinnedTables
import GoSem.Claim
import GoSem.ClaimJoined
import GoSem.ClaimMapViews
import Derived.JoinedTies
import Derived.KernelRfl
namespace Go.Proofs.YtmcpanmcgpjfiaaGreatDoor
/- THE CELL 'sum', in the pinned program and in every row, IS THE sha256 OF THE DUMP (.gsa) THAT YtmcpanmcgpjfiaaGreatDoorProg.lean LOADS. Nothing in Lean hashes anything: it is a label: what it is worth is what the hold of that sum in a sandbox is worth. -/
noncomputable def Tryz.pinned : Pinned := { name := "ytmcpanmcgpjfiaagreatdoor", sum := "bd0c4fd7921f14c8595cba82397c9cf9d325a8eb55534f29fe56957464c66798", checked := Tryz.checked }
namespace Rows
def none {H : Type} : Left H := { results := [], args := [] }

/- WHAT THE LISTED PACKAGE-LEVEL VARIABLES READ AS WHEN THE CALL BEGINS. Each datum BY PROGRAM (the guide's laid-datum.mjs) off the statement by which the dump's own 'gosem.cut.vars' lays the variable. In a bare row this is a premise. The card (YtmcpanmcgpjfiaaGreatDoorCards.lean) ties it to the program's text. -/
def laid_unicode_utf8_acceptRanges {H : Type} : DataW H := .agg [.agg [.lit (.int .u8 128), .lit (.int .u8 191)], .agg [.lit (.int .u8 160), .lit (.int .u8 191)], .agg [.lit (.int .u8 128), .lit (.int .u8 159)], .agg [.lit (.int .u8 144), .lit (.int .u8 191)], .agg [.lit (.int .u8 128), .lit (.int .u8 143)], .agg [.lit (.int .u8 0), .lit (.int .u8 0)], .agg [.lit (.int .u8 0), .lit (.int .u8 0)], .agg [.lit (.int .u8 0), .lit (.int .u8 0)], .agg [.lit (.int .u8 0), .lit (.int .u8 0)], .agg [.lit (.int .u8 0), .lit (.int .u8 0)], .agg [.lit (.int .u8 0), .lit (.int .u8 0)], .agg [.lit (.int .u8 0), .lit (.int .u8 0)], .agg [.lit (.int .u8 0), .lit (.int .u8 0)], .agg [.lit (.int .u8 0), .lit (.int .u8 0)], .agg [.lit (.int .u8 0), .lit (.int .u8 0)], .agg [.lit (.int .u8 0), .lit (.int .u8 0)]]
/-- One of Go's own tables, pinned by name: the form's constant. -/
def laid_unicode_utf8_first : DataW Unit := Go.Pinned.utf8First

/-- 'brokerlaw43.HandoffSeats': WHATEVER THE INPUT: true; the input reads as it did. -/
def handoffSeatsSpec : ChangeSpec := { name := "handoffSeats", fn := fun _ => fun
  | [d1, d2] => { results := [.lit (.bool true)], args := [d1, d2] }
  | _ => none }
def handoffSeatsRow : OpenClaim := { program := "ytmcpanmcgpjfiaagreatdoor", sum := "bd0c4fd7921f14c8595cba82397c9cf9d325a8eb55534f29fe56957464c66798", func := "broker/brokerlaw43.HandoffSeats", spec := "handoffSeats", inPlace := ["slices.overlaps[broker/api.Seat]", "internal/bytealg.IndexByteString", "internal/bytealg.IndexString", "internal/bytealg.CountString"], unfollowed := true, recurses := true, named := ["internal/bytealg.MaxLen", "unicode/utf8.first", "unicode/utf8.acceptRanges"], apart := false, laid := [("unicode/utf8.acceptRanges", laid_unicode_utf8_acceptRanges), ("unicode/utf8.first", laid_unicode_utf8_first)] }
def HandoffSeatsSaid : Prop := handoffSeatsRow.holds Tryz.pinned (OpenSpec.ofChange handoffSeatsSpec)

/-- ITS FALSE NEIGHBOUR: 'it returns false'. Refute it at one input. -/
def handoffSeatsWrong : ChangeSpec := { name := "handoffSeats", fn := fun _ => fun
  | [d1, d2] => { results := [.lit (.bool false)], args := [d1, d2] }
  | _ => none }
def HandoffSeatsWrongFalsely : Prop := handoffSeatsRow.holds Tryz.pinned (OpenSpec.ofChange handoffSeatsWrong)

/-- 'brokerlaw43.HandoffExports': WHATEVER THE INPUT: true; the input reads as it did. -/
def handoffExportsSpec : ChangeSpec := { name := "handoffExports", fn := fun _ => fun
  | [d] => { results := [.lit (.bool true)], args := [d] }
  | _ => none }
def handoffExportsRow : OpenClaim := { program := "ytmcpanmcgpjfiaagreatdoor", sum := "bd0c4fd7921f14c8595cba82397c9cf9d325a8eb55534f29fe56957464c66798", func := "broker/brokerlaw43.HandoffExports", spec := "handoffExports", inPlace := ["slices.overlaps[broker/api.Seat]", "internal/bytealg.IndexByteString", "internal/bytealg.IndexString", "internal/bytealg.CountString"], unfollowed := true, recurses := true, named := ["internal/bytealg.MaxLen", "unicode/utf8.first", "unicode/utf8.acceptRanges"], apart := false, laid := [("unicode/utf8.acceptRanges", laid_unicode_utf8_acceptRanges), ("unicode/utf8.first", laid_unicode_utf8_first)] }
def HandoffExportsSaid : Prop := handoffExportsRow.holds Tryz.pinned (OpenSpec.ofChange handoffExportsSpec)

/-- ITS FALSE NEIGHBOUR: 'it returns false'. Refute it at one input. -/
def handoffExportsWrong : ChangeSpec := { name := "handoffExports", fn := fun _ => fun
  | [d] => { results := [.lit (.bool false)], args := [d] }
  | _ => none }
def HandoffExportsWrongFalsely : Prop := handoffExportsRow.holds Tryz.pinned (OpenSpec.ofChange handoffExportsWrong)

/-- 'brokerlaw43.HandoffImports': WHATEVER THE INPUT: true; the input reads as it did. -/
def handoffImportsSpec : ChangeSpec := { name := "handoffImports", fn := fun _ => fun
  | [d] => { results := [.lit (.bool true)], args := [d] }
  | _ => none }
def handoffImportsRow : OpenClaim := { program := "ytmcpanmcgpjfiaagreatdoor", sum := "bd0c4fd7921f14c8595cba82397c9cf9d325a8eb55534f29fe56957464c66798", func := "broker/brokerlaw43.HandoffImports", spec := "handoffImports", inPlace := ["slices.overlaps[broker/api.Seat]", "internal/bytealg.IndexByteString", "internal/bytealg.IndexString", "internal/bytealg.CountString"], unfollowed := true, recurses := true, named := ["internal/bytealg.MaxLen", "unicode/utf8.first", "unicode/utf8.acceptRanges"], apart := false, laid := [("unicode/utf8.acceptRanges", laid_unicode_utf8_acceptRanges), ("unicode/utf8.first", laid_unicode_utf8_first)] }
def HandoffImportsSaid : Prop := handoffImportsRow.holds Tryz.pinned (OpenSpec.ofChange handoffImportsSpec)

/-- ITS FALSE NEIGHBOUR: 'it returns false'. Refute it at one input. -/
def handoffImportsWrong : ChangeSpec := { name := "handoffImports", fn := fun _ => fun
  | [d] => { results := [.lit (.bool false)], args := [d] }
  | _ => none }
def HandoffImportsWrongFalsely : Prop := handoffImportsRow.holds Tryz.pinned (OpenSpec.ofChange handoffImportsWrong)

/-- 'brokerlaw43.HandoffBack': WHATEVER THE INPUT: true; the input reads as it did. -/
def handoffBackSpec : ChangeSpec := { name := "handoffBack", fn := fun _ => fun
  | [d1, d2] => { results := [.lit (.bool true)], args := [d1, d2] }
  | _ => none }
def handoffBackRow : OpenClaim := { program := "ytmcpanmcgpjfiaagreatdoor", sum := "bd0c4fd7921f14c8595cba82397c9cf9d325a8eb55534f29fe56957464c66798", func := "broker/brokerlaw43.HandoffBack", spec := "handoffBack", inPlace := ["slices.overlaps[broker/api.Seat]", "internal/bytealg.IndexByteString", "internal/bytealg.IndexString", "internal/bytealg.CountString"], unfollowed := true, recurses := true, named := ["internal/bytealg.MaxLen", "unicode/utf8.first", "unicode/utf8.acceptRanges"], apart := false, laid := [("unicode/utf8.acceptRanges", laid_unicode_utf8_acceptRanges), ("unicode/utf8.first", laid_unicode_utf8_first)] }
def HandoffBackSaid : Prop := handoffBackRow.holds Tryz.pinned (OpenSpec.ofChange handoffBackSpec)

/-- ITS FALSE NEIGHBOUR: 'it returns false'. Refute it at one input. -/
def handoffBackWrong : ChangeSpec := { name := "handoffBack", fn := fun _ => fun
  | [d1, d2] => { results := [.lit (.bool false)], args := [d1, d2] }
  | _ => none }
def HandoffBackWrongFalsely : Prop := handoffBackRow.holds Tryz.pinned (OpenSpec.ofChange handoffBackWrong)

/-- 'brokerlaw43.HandoffCanonical': WHATEVER THE INPUT: true; the input reads as it did. -/
def handoffCanonicalSpec : ChangeSpec := { name := "handoffCanonical", fn := fun _ => fun
  | [d] => { results := [.lit (.bool true)], args := [d] }
  | _ => none }
def handoffCanonicalRow : OpenClaim := { program := "ytmcpanmcgpjfiaagreatdoor", sum := "bd0c4fd7921f14c8595cba82397c9cf9d325a8eb55534f29fe56957464c66798", func := "broker/brokerlaw43.HandoffCanonical", spec := "handoffCanonical", inPlace := ["slices.overlaps[broker/api.Seat]", "internal/bytealg.IndexByteString", "internal/bytealg.IndexString", "internal/bytealg.CountString"], unfollowed := true, recurses := true, named := ["internal/bytealg.MaxLen", "unicode/utf8.first", "unicode/utf8.acceptRanges"], apart := false, laid := [("unicode/utf8.acceptRanges", laid_unicode_utf8_acceptRanges), ("unicode/utf8.first", laid_unicode_utf8_first)] }
def HandoffCanonicalSaid : Prop := handoffCanonicalRow.holds Tryz.pinned (OpenSpec.ofChange handoffCanonicalSpec)

/-- ITS FALSE NEIGHBOUR: 'it returns false'. Refute it at one input. -/
def handoffCanonicalWrong : ChangeSpec := { name := "handoffCanonical", fn := fun _ => fun
  | [d] => { results := [.lit (.bool false)], args := [d] }
  | _ => none }
def HandoffCanonicalWrongFalsely : Prop := handoffCanonicalRow.holds Tryz.pinned (OpenSpec.ofChange handoffCanonicalWrong)

/-- 'brokerlaw43.HandoffClaims': WHATEVER THE INPUT: true; the input reads as it did. -/
def handoffClaimsSpec : ChangeSpec := { name := "handoffClaims", fn := fun _ => fun
  | [d1, d2] => { results := [.lit (.bool true)], args := [d1, d2] }
  | _ => none }
def handoffClaimsRow : OpenClaim := { program := "ytmcpanmcgpjfiaagreatdoor", sum := "bd0c4fd7921f14c8595cba82397c9cf9d325a8eb55534f29fe56957464c66798", func := "broker/brokerlaw43.HandoffClaims", spec := "handoffClaims", inPlace := ["slices.overlaps[broker/api.Seat]", "internal/bytealg.IndexByteString", "internal/bytealg.IndexString", "internal/bytealg.CountString"], unfollowed := true, recurses := true, named := ["internal/bytealg.MaxLen", "unicode/utf8.first", "unicode/utf8.acceptRanges"], apart := false, laid := [("unicode/utf8.acceptRanges", laid_unicode_utf8_acceptRanges), ("unicode/utf8.first", laid_unicode_utf8_first)] }
def HandoffClaimsSaid : Prop := handoffClaimsRow.holds Tryz.pinned (OpenSpec.ofChange handoffClaimsSpec)

/-- ITS FALSE NEIGHBOUR: 'it returns false'. Refute it at one input. -/
def handoffClaimsWrong : ChangeSpec := { name := "handoffClaims", fn := fun _ => fun
  | [d1, d2] => { results := [.lit (.bool false)], args := [d1, d2] }
  | _ => none }
def HandoffClaimsWrongFalsely : Prop := handoffClaimsRow.holds Tryz.pinned (OpenSpec.ofChange handoffClaimsWrong)

/-- 'brokerlaw43.HandoffMerges': WHATEVER THE INPUT: true; the input reads as it did. -/
def handoffMergesSpec : ChangeSpec := { name := "handoffMerges", fn := fun _ => fun
  | [d1, d2] => { results := [.lit (.bool true)], args := [d1, d2] }
  | _ => none }
def handoffMergesRow : OpenClaim := { program := "ytmcpanmcgpjfiaagreatdoor", sum := "bd0c4fd7921f14c8595cba82397c9cf9d325a8eb55534f29fe56957464c66798", func := "broker/brokerlaw43.HandoffMerges", spec := "handoffMerges", inPlace := ["slices.overlaps[broker/api.Seat]", "internal/bytealg.IndexByteString", "internal/bytealg.IndexString", "internal/bytealg.CountString"], unfollowed := true, recurses := true, named := ["internal/bytealg.MaxLen", "unicode/utf8.first", "unicode/utf8.acceptRanges"], apart := false, laid := [("unicode/utf8.acceptRanges", laid_unicode_utf8_acceptRanges), ("unicode/utf8.first", laid_unicode_utf8_first)] }
def HandoffMergesSaid : Prop := handoffMergesRow.holds Tryz.pinned (OpenSpec.ofChange handoffMergesSpec)

/-- ITS FALSE NEIGHBOUR: 'it returns false'. Refute it at one input. -/
def handoffMergesWrong : ChangeSpec := { name := "handoffMerges", fn := fun _ => fun
  | [d1, d2] => { results := [.lit (.bool false)], args := [d1, d2] }
  | _ => none }
def HandoffMergesWrongFalsely : Prop := handoffMergesRow.holds Tryz.pinned (OpenSpec.ofChange handoffMergesWrong)

/-- 'brokerlaw43.HandoffKeeps': WHATEVER THE INPUT: true; the input reads as it did. -/
def handoffKeepsSpec : ChangeSpec := { name := "handoffKeeps", fn := fun _ => fun
  | [d1, d2, d3] => { results := [.lit (.bool true)], args := [d1, d2, d3] }
  | _ => none }
def handoffKeepsRow : OpenClaim := { program := "ytmcpanmcgpjfiaagreatdoor", sum := "bd0c4fd7921f14c8595cba82397c9cf9d325a8eb55534f29fe56957464c66798", func := "broker/brokerlaw43.HandoffKeeps", spec := "handoffKeeps", inPlace := ["slices.overlaps[broker/api.Seat]", "internal/bytealg.IndexByteString", "internal/bytealg.IndexString", "internal/bytealg.CountString"], unfollowed := true, recurses := true, named := ["internal/bytealg.MaxLen", "unicode/utf8.first", "unicode/utf8.acceptRanges"], apart := false, laid := [("unicode/utf8.acceptRanges", laid_unicode_utf8_acceptRanges), ("unicode/utf8.first", laid_unicode_utf8_first)] }
def HandoffKeepsSaid : Prop := handoffKeepsRow.holds Tryz.pinned (OpenSpec.ofChange handoffKeepsSpec)

/-- ITS FALSE NEIGHBOUR: 'it returns false'. Refute it at one input. -/
def handoffKeepsWrong : ChangeSpec := { name := "handoffKeeps", fn := fun _ => fun
  | [d1, d2, d3] => { results := [.lit (.bool false)], args := [d1, d2, d3] }
  | _ => none }
def HandoffKeepsWrongFalsely : Prop := handoffKeepsRow.holds Tryz.pinned (OpenSpec.ofChange handoffKeepsWrong)

/-- 'brokerlaw43.HandoffMerge': WHATEVER THE INPUT: true; the input reads as it did. -/
def handoffMergeSpec : ChangeSpec := { name := "handoffMerge", fn := fun _ => fun
  | [d1, d2, d3] => { results := [.lit (.bool true)], args := [d1, d2, d3] }
  | _ => none }
def handoffMergeRow : OpenClaim := { program := "ytmcpanmcgpjfiaagreatdoor", sum := "bd0c4fd7921f14c8595cba82397c9cf9d325a8eb55534f29fe56957464c66798", func := "broker/brokerlaw43.HandoffMerge", spec := "handoffMerge", inPlace := ["slices.overlaps[broker/api.Seat]", "internal/bytealg.IndexByteString", "internal/bytealg.IndexString", "internal/bytealg.CountString"], unfollowed := true, recurses := true, named := ["internal/bytealg.MaxLen", "unicode/utf8.first", "unicode/utf8.acceptRanges"], apart := false, laid := [("unicode/utf8.acceptRanges", laid_unicode_utf8_acceptRanges), ("unicode/utf8.first", laid_unicode_utf8_first)] }
def HandoffMergeSaid : Prop := handoffMergeRow.holds Tryz.pinned (OpenSpec.ofChange handoffMergeSpec)

/-- ITS FALSE NEIGHBOUR: 'it returns false'. Refute it at one input. -/
def handoffMergeWrong : ChangeSpec := { name := "handoffMerge", fn := fun _ => fun
  | [d1, d2, d3] => { results := [.lit (.bool false)], args := [d1, d2, d3] }
  | _ => none }
def HandoffMergeWrongFalsely : Prop := handoffMergeRow.holds Tryz.pinned (OpenSpec.ofChange handoffMergeWrong)

/- THE SECOND FORM. 'bulk': how many values and letters a reading holds, each counted each time it is reached (what is shared counts as often as it is met; a slice's spare places count too). A statement '..UptoSaid' is the law's where the arguments, and the package variables that the reading takes, are together of bulk at most 1048576: NARROWER than '..Said'. Prove '..Said' where nothing that the law and all that it calls make is longer than what came in: it says more and counts as full. Else prove '..UptoSaid'. A law counts once. -/
mutual
def uptoBulk {H : Type} : DataW H → Nat
  | .lit (.string bytes) => bytes.length + 1
  | .lit _ => 1
  | .nil => 1
  | .ptr d => uptoBulk d + 1
  | .slice elems spare => uptoBulkAll elems + uptoBulkAll spare + 1
  | .agg parts => uptoBulkAll parts + 1
  | .iface _ d => uptoBulk d + 1
  | .map entries => uptoBulkEntries entries + 1
  | .held _ => 1
def uptoBulkAll {H : Type} : List (DataW H) → Nat
  | [] => 0
  | d :: r => uptoBulk d + uptoBulkAll r
def uptoBulkEntries {H : Type} : List (Lit × DataW H) → Nat
  | [] => 0
  | x :: r => uptoBulkEntry x + uptoBulkEntries r
def uptoBulkEntry {H : Type} : Lit × DataW H → Nat
  | (.string bytes, d) => bytes.length + uptoBulk d + 1
  | (_, d) => uptoBulk d + 1
 end
def uptoSmall : (H : Type) → List (DataW H) → Bool := fun _ ds => decide (uptoBulkAll ds ≤ 1048576)
def OpenSpec.upto (s : _root_.Go.ChangeSpec) : _root_.Go.OpenSpec := { _root_.Go.OpenSpec.ofChange s with cond := some uptoSmall }

/-- 'brokerlaw43.HandoffSeats', WHERE WHAT IT READS IS OF BULK AT MOST 1048576: true; the input reads as it did. -/
def handoffSeatsUptoRow : OpenClaim := { program := "ytmcpanmcgpjfiaagreatdoor", sum := "bd0c4fd7921f14c8595cba82397c9cf9d325a8eb55534f29fe56957464c66798", func := "broker/brokerlaw43.HandoffSeats", spec := "handoffSeats", inPlace := ["slices.overlaps[broker/api.Seat]", "internal/bytealg.IndexByteString", "internal/bytealg.IndexString", "internal/bytealg.CountString"], unfollowed := true, recurses := true, named := ["internal/bytealg.MaxLen", "unicode/utf8.first", "unicode/utf8.acceptRanges"], apart := false, laid := [("unicode/utf8.acceptRanges", laid_unicode_utf8_acceptRanges), ("unicode/utf8.first", laid_unicode_utf8_first)], narrowed := true }
def HandoffSeatsUptoSaid : Prop := handoffSeatsUptoRow.holds Tryz.pinned (OpenSpec.upto handoffSeatsSpec)

/-- 'brokerlaw43.HandoffExports', WHERE WHAT IT READS IS OF BULK AT MOST 1048576: true; the input reads as it did. -/
def handoffExportsUptoRow : OpenClaim := { program := "ytmcpanmcgpjfiaagreatdoor", sum := "bd0c4fd7921f14c8595cba82397c9cf9d325a8eb55534f29fe56957464c66798", func := "broker/brokerlaw43.HandoffExports", spec := "handoffExports", inPlace := ["slices.overlaps[broker/api.Seat]", "internal/bytealg.IndexByteString", "internal/bytealg.IndexString", "internal/bytealg.CountString"], unfollowed := true, recurses := true, named := ["internal/bytealg.MaxLen", "unicode/utf8.first", "unicode/utf8.acceptRanges"], apart := false, laid := [("unicode/utf8.acceptRanges", laid_unicode_utf8_acceptRanges), ("unicode/utf8.first", laid_unicode_utf8_first)], narrowed := true }
def HandoffExportsUptoSaid : Prop := handoffExportsUptoRow.holds Tryz.pinned (OpenSpec.upto handoffExportsSpec)

/-- 'brokerlaw43.HandoffImports', WHERE WHAT IT READS IS OF BULK AT MOST 1048576: true; the input reads as it did. -/
def handoffImportsUptoRow : OpenClaim := { program := "ytmcpanmcgpjfiaagreatdoor", sum := "bd0c4fd7921f14c8595cba82397c9cf9d325a8eb55534f29fe56957464c66798", func := "broker/brokerlaw43.HandoffImports", spec := "handoffImports", inPlace := ["slices.overlaps[broker/api.Seat]", "internal/bytealg.IndexByteString", "internal/bytealg.IndexString", "internal/bytealg.CountString"], unfollowed := true, recurses := true, named := ["internal/bytealg.MaxLen", "unicode/utf8.first", "unicode/utf8.acceptRanges"], apart := false, laid := [("unicode/utf8.acceptRanges", laid_unicode_utf8_acceptRanges), ("unicode/utf8.first", laid_unicode_utf8_first)], narrowed := true }
def HandoffImportsUptoSaid : Prop := handoffImportsUptoRow.holds Tryz.pinned (OpenSpec.upto handoffImportsSpec)

/-- 'brokerlaw43.HandoffBack', WHERE WHAT IT READS IS OF BULK AT MOST 1048576: true; the input reads as it did. -/
def handoffBackUptoRow : OpenClaim := { program := "ytmcpanmcgpjfiaagreatdoor", sum := "bd0c4fd7921f14c8595cba82397c9cf9d325a8eb55534f29fe56957464c66798", func := "broker/brokerlaw43.HandoffBack", spec := "handoffBack", inPlace := ["slices.overlaps[broker/api.Seat]", "internal/bytealg.IndexByteString", "internal/bytealg.IndexString", "internal/bytealg.CountString"], unfollowed := true, recurses := true, named := ["internal/bytealg.MaxLen", "unicode/utf8.first", "unicode/utf8.acceptRanges"], apart := false, laid := [("unicode/utf8.acceptRanges", laid_unicode_utf8_acceptRanges), ("unicode/utf8.first", laid_unicode_utf8_first)], narrowed := true }
def HandoffBackUptoSaid : Prop := handoffBackUptoRow.holds Tryz.pinned (OpenSpec.upto handoffBackSpec)

/-- 'brokerlaw43.HandoffCanonical', WHERE WHAT IT READS IS OF BULK AT MOST 1048576: true; the input reads as it did. -/
def handoffCanonicalUptoRow : OpenClaim := { program := "ytmcpanmcgpjfiaagreatdoor", sum := "bd0c4fd7921f14c8595cba82397c9cf9d325a8eb55534f29fe56957464c66798", func := "broker/brokerlaw43.HandoffCanonical", spec := "handoffCanonical", inPlace := ["slices.overlaps[broker/api.Seat]", "internal/bytealg.IndexByteString", "internal/bytealg.IndexString", "internal/bytealg.CountString"], unfollowed := true, recurses := true, named := ["internal/bytealg.MaxLen", "unicode/utf8.first", "unicode/utf8.acceptRanges"], apart := false, laid := [("unicode/utf8.acceptRanges", laid_unicode_utf8_acceptRanges), ("unicode/utf8.first", laid_unicode_utf8_first)], narrowed := true }
def HandoffCanonicalUptoSaid : Prop := handoffCanonicalUptoRow.holds Tryz.pinned (OpenSpec.upto handoffCanonicalSpec)

/-- 'brokerlaw43.HandoffClaims', WHERE WHAT IT READS IS OF BULK AT MOST 1048576: true; the input reads as it did. -/
def handoffClaimsUptoRow : OpenClaim := { program := "ytmcpanmcgpjfiaagreatdoor", sum := "bd0c4fd7921f14c8595cba82397c9cf9d325a8eb55534f29fe56957464c66798", func := "broker/brokerlaw43.HandoffClaims", spec := "handoffClaims", inPlace := ["slices.overlaps[broker/api.Seat]", "internal/bytealg.IndexByteString", "internal/bytealg.IndexString", "internal/bytealg.CountString"], unfollowed := true, recurses := true, named := ["internal/bytealg.MaxLen", "unicode/utf8.first", "unicode/utf8.acceptRanges"], apart := false, laid := [("unicode/utf8.acceptRanges", laid_unicode_utf8_acceptRanges), ("unicode/utf8.first", laid_unicode_utf8_first)], narrowed := true }
def HandoffClaimsUptoSaid : Prop := handoffClaimsUptoRow.holds Tryz.pinned (OpenSpec.upto handoffClaimsSpec)

/-- 'brokerlaw43.HandoffMerges', WHERE WHAT IT READS IS OF BULK AT MOST 1048576: true; the input reads as it did. -/
def handoffMergesUptoRow : OpenClaim := { program := "ytmcpanmcgpjfiaagreatdoor", sum := "bd0c4fd7921f14c8595cba82397c9cf9d325a8eb55534f29fe56957464c66798", func := "broker/brokerlaw43.HandoffMerges", spec := "handoffMerges", inPlace := ["slices.overlaps[broker/api.Seat]", "internal/bytealg.IndexByteString", "internal/bytealg.IndexString", "internal/bytealg.CountString"], unfollowed := true, recurses := true, named := ["internal/bytealg.MaxLen", "unicode/utf8.first", "unicode/utf8.acceptRanges"], apart := false, laid := [("unicode/utf8.acceptRanges", laid_unicode_utf8_acceptRanges), ("unicode/utf8.first", laid_unicode_utf8_first)], narrowed := true }
def HandoffMergesUptoSaid : Prop := handoffMergesUptoRow.holds Tryz.pinned (OpenSpec.upto handoffMergesSpec)

/-- 'brokerlaw43.HandoffKeeps', WHERE WHAT IT READS IS OF BULK AT MOST 1048576: true; the input reads as it did. -/
def handoffKeepsUptoRow : OpenClaim := { program := "ytmcpanmcgpjfiaagreatdoor", sum := "bd0c4fd7921f14c8595cba82397c9cf9d325a8eb55534f29fe56957464c66798", func := "broker/brokerlaw43.HandoffKeeps", spec := "handoffKeeps", inPlace := ["slices.overlaps[broker/api.Seat]", "internal/bytealg.IndexByteString", "internal/bytealg.IndexString", "internal/bytealg.CountString"], unfollowed := true, recurses := true, named := ["internal/bytealg.MaxLen", "unicode/utf8.first", "unicode/utf8.acceptRanges"], apart := false, laid := [("unicode/utf8.acceptRanges", laid_unicode_utf8_acceptRanges), ("unicode/utf8.first", laid_unicode_utf8_first)], narrowed := true }
def HandoffKeepsUptoSaid : Prop := handoffKeepsUptoRow.holds Tryz.pinned (OpenSpec.upto handoffKeepsSpec)

/-- 'brokerlaw43.HandoffMerge', WHERE WHAT IT READS IS OF BULK AT MOST 1048576: true; the input reads as it did. -/
def handoffMergeUptoRow : OpenClaim := { program := "ytmcpanmcgpjfiaagreatdoor", sum := "bd0c4fd7921f14c8595cba82397c9cf9d325a8eb55534f29fe56957464c66798", func := "broker/brokerlaw43.HandoffMerge", spec := "handoffMerge", inPlace := ["slices.overlaps[broker/api.Seat]", "internal/bytealg.IndexByteString", "internal/bytealg.IndexString", "internal/bytealg.CountString"], unfollowed := true, recurses := true, named := ["internal/bytealg.MaxLen", "unicode/utf8.first", "unicode/utf8.acceptRanges"], apart := false, laid := [("unicode/utf8.acceptRanges", laid_unicode_utf8_acceptRanges), ("unicode/utf8.first", laid_unicode_utf8_first)], narrowed := true }
def HandoffMergeUptoSaid : Prop := handoffMergeUptoRow.holds Tryz.pinned (OpenSpec.upto handoffMergeSpec)

end Rows
end Go.Proofs.YtmcpanmcgpjfiaaGreatDoor
