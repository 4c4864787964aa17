/-
  NARROWER THAN 'FOR EVERY INPUT', by the rows' own cells (each row's printed sentence says how): SessionOffers: laid · SessionHandles: laid · SessionExpires: laid · SessionSubs: laid · SessionNew: laid · SessionChecks: laid · SessionPulls: laid · SessionResumes: laid · SessionParts: laid.
  DERIVED. THE GIVEN ROWS OF THIS SEAT. 9 by the template 'for every input the law returns true; each argument reads behind the call as it read before'; 0 by the template 'total and deterministic' (their statements: YtojlmojebnlmdaaGreatDoorTotals.lean).
  GIVEN WITH THE SEED: the statements are not yours to turn. If you find one false, say at which input.
  Laid BY PROGRAM, IN A SANDBOX (cutbox-rows.mjs): the forced cells as the released guide's own fill.sh prints them over the translation e817e8024bbf6d6f… (all of the seat's roots in one cut). By AI agents, Wed Nov 11 2026. No macro, syntax, notation, axiom, sorry.
-/
import Derived.Test.YtojlmojebnlmdaaGreatDoorChecked
import GoSem.PinnedTables
import GoSem.Claim
import GoSem.ClaimJoined
import GoSem.ClaimMapViews
import Derived.JoinedTies
import Derived.KernelRfl
namespace Go.Proofs.YtojlmojebnlmdaaGreatDoor
/- THE CELL 'sum', in the pinned program and in every row, IS THE sha256 OF THE DUMP (.gsa) THAT YtojlmojebnlmdaaGreatDoorProg.lean LOADS. Nothing in Lean hashes anything: it is a label: what it is worth is what the hold of that sum in a sandbox is worth. -/
noncomputable def Tryz.pinned : Pinned := { name := "ytojlmojebnlmdaagreatdoor", sum := "e817e8024bbf6d6f09de6268ed86ecca911889c4a8dd6ab8342edf95b945b28f", checked := Tryz.checked }
namespace Rows
def none {H : Type} : Left H := { results := [], args := [] }

/- WHAT THE LISTED PACKAGE-LEVEL VARIABLES READ AS WHEN THE CALL BEGINS. Each datum BY PROGRAM (the guide's laid-datum.mjs) off the statement by which the dump's own 'gosem.cut.vars' lays the variable. In a bare row this is a premise. The card (YtojlmojebnlmdaaGreatDoorCards.lean) ties it to the program's text. -/
def laid_unicode_utf8_acceptRanges {H : Type} : DataW H := .agg [.agg [.lit (.int .u8 128), .lit (.int .u8 191)], .agg [.lit (.int .u8 160), .lit (.int .u8 191)], .agg [.lit (.int .u8 128), .lit (.int .u8 159)], .agg [.lit (.int .u8 144), .lit (.int .u8 191)], .agg [.lit (.int .u8 128), .lit (.int .u8 143)], .agg [.lit (.int .u8 0), .lit (.int .u8 0)], .agg [.lit (.int .u8 0), .lit (.int .u8 0)], .agg [.lit (.int .u8 0), .lit (.int .u8 0)], .agg [.lit (.int .u8 0), .lit (.int .u8 0)], .agg [.lit (.int .u8 0), .lit (.int .u8 0)], .agg [.lit (.int .u8 0), .lit (.int .u8 0)], .agg [.lit (.int .u8 0), .lit (.int .u8 0)], .agg [.lit (.int .u8 0), .lit (.int .u8 0)], .agg [.lit (.int .u8 0), .lit (.int .u8 0)], .agg [.lit (.int .u8 0), .lit (.int .u8 0)], .agg [.lit (.int .u8 0), .lit (.int .u8 0)]]
/-- One of Go's own tables, pinned by name: the form's constant. -/
def laid_unicode_utf8_first : DataW Unit := Go.Pinned.utf8First

/-- 'brokerlaw19.SessionOffers': WHATEVER THE INPUT: true; the input reads as it did. -/
def sessionOffersSpec : ChangeSpec := { name := "sessionOffers", fn := fun _ => fun
  | [d1, d2, d3, d4] => { results := [.lit (.bool true)], args := [d1, d2, d3, d4] }
  | _ => none }
def sessionOffersRow : OpenClaim := { program := "ytojlmojebnlmdaagreatdoor", sum := "e817e8024bbf6d6f09de6268ed86ecca911889c4a8dd6ab8342edf95b945b28f", func := "broker/brokerlaw19.SessionOffers", spec := "sessionOffers", inPlace := ["internal/bytealg.IndexByteString", "internal/bytealg.IndexString", "internal/bytealg.CountString", "internal/bytealg.abigen_runtime_cmpstring", "slices.overlaps[broker/api.Sub]", "slices.overlaps[int]"], unfollowed := true, recurses := true, named := ["internal/bytealg.MaxLen", "unicode/utf8.first", "unicode/utf8.acceptRanges"], apart := false, laid := [("unicode/utf8.acceptRanges", laid_unicode_utf8_acceptRanges), ("unicode/utf8.first", laid_unicode_utf8_first)] }
def SessionOffersSaid : Prop := sessionOffersRow.holds Tryz.pinned (OpenSpec.ofChange sessionOffersSpec)

/-- ITS FALSE NEIGHBOUR: 'it returns false'. Refute it at one input. -/
def sessionOffersWrong : ChangeSpec := { name := "sessionOffers", fn := fun _ => fun
  | [d1, d2, d3, d4] => { results := [.lit (.bool false)], args := [d1, d2, d3, d4] }
  | _ => none }
def SessionOffersWrongFalsely : Prop := sessionOffersRow.holds Tryz.pinned (OpenSpec.ofChange sessionOffersWrong)

/-- 'brokerlaw19.SessionHandles': WHATEVER THE INPUT: true; the input reads as it did. -/
def sessionHandlesSpec : ChangeSpec := { name := "sessionHandles", fn := fun _ => fun
  | [d1, d2, d3] => { results := [.lit (.bool true)], args := [d1, d2, d3] }
  | _ => none }
def sessionHandlesRow : OpenClaim := { program := "ytojlmojebnlmdaagreatdoor", sum := "e817e8024bbf6d6f09de6268ed86ecca911889c4a8dd6ab8342edf95b945b28f", func := "broker/brokerlaw19.SessionHandles", spec := "sessionHandles", inPlace := ["internal/bytealg.IndexByteString", "internal/bytealg.IndexString", "internal/bytealg.CountString", "internal/bytealg.abigen_runtime_cmpstring", "slices.overlaps[broker/api.Sub]", "slices.overlaps[int]"], unfollowed := true, recurses := true, named := ["internal/bytealg.MaxLen", "unicode/utf8.first", "unicode/utf8.acceptRanges"], apart := false, laid := [("unicode/utf8.acceptRanges", laid_unicode_utf8_acceptRanges), ("unicode/utf8.first", laid_unicode_utf8_first)] }
def SessionHandlesSaid : Prop := sessionHandlesRow.holds Tryz.pinned (OpenSpec.ofChange sessionHandlesSpec)

/-- ITS FALSE NEIGHBOUR: 'it returns false'. Refute it at one input. -/
def sessionHandlesWrong : ChangeSpec := { name := "sessionHandles", fn := fun _ => fun
  | [d1, d2, d3] => { results := [.lit (.bool false)], args := [d1, d2, d3] }
  | _ => none }
def SessionHandlesWrongFalsely : Prop := sessionHandlesRow.holds Tryz.pinned (OpenSpec.ofChange sessionHandlesWrong)

/-- 'brokerlaw19.SessionExpires': WHATEVER THE INPUT: true; the input reads as it did. -/
def sessionExpiresSpec : ChangeSpec := { name := "sessionExpires", fn := fun _ => fun
  | [d1, d2, d3] => { results := [.lit (.bool true)], args := [d1, d2, d3] }
  | _ => none }
def sessionExpiresRow : OpenClaim := { program := "ytojlmojebnlmdaagreatdoor", sum := "e817e8024bbf6d6f09de6268ed86ecca911889c4a8dd6ab8342edf95b945b28f", func := "broker/brokerlaw19.SessionExpires", spec := "sessionExpires", inPlace := ["internal/bytealg.IndexByteString", "internal/bytealg.IndexString", "internal/bytealg.CountString", "internal/bytealg.abigen_runtime_cmpstring", "slices.overlaps[broker/api.Sub]", "slices.overlaps[int]"], unfollowed := true, recurses := true, named := ["internal/bytealg.MaxLen", "unicode/utf8.first", "unicode/utf8.acceptRanges"], apart := false, laid := [("unicode/utf8.acceptRanges", laid_unicode_utf8_acceptRanges), ("unicode/utf8.first", laid_unicode_utf8_first)] }
def SessionExpiresSaid : Prop := sessionExpiresRow.holds Tryz.pinned (OpenSpec.ofChange sessionExpiresSpec)

/-- ITS FALSE NEIGHBOUR: 'it returns false'. Refute it at one input. -/
def sessionExpiresWrong : ChangeSpec := { name := "sessionExpires", fn := fun _ => fun
  | [d1, d2, d3] => { results := [.lit (.bool false)], args := [d1, d2, d3] }
  | _ => none }
def SessionExpiresWrongFalsely : Prop := sessionExpiresRow.holds Tryz.pinned (OpenSpec.ofChange sessionExpiresWrong)

/-- 'brokerlaw19.SessionSubs': WHATEVER THE INPUT: true; the input reads as it did. -/
def sessionSubsSpec : ChangeSpec := { name := "sessionSubs", fn := fun _ => fun
  | [d1, d2, d3] => { results := [.lit (.bool true)], args := [d1, d2, d3] }
  | _ => none }
def sessionSubsRow : OpenClaim := { program := "ytojlmojebnlmdaagreatdoor", sum := "e817e8024bbf6d6f09de6268ed86ecca911889c4a8dd6ab8342edf95b945b28f", func := "broker/brokerlaw19.SessionSubs", spec := "sessionSubs", inPlace := ["internal/bytealg.IndexByteString", "internal/bytealg.IndexString", "internal/bytealg.CountString", "internal/bytealg.abigen_runtime_cmpstring", "slices.overlaps[broker/api.Sub]", "slices.overlaps[int]"], unfollowed := true, recurses := true, named := ["internal/bytealg.MaxLen", "unicode/utf8.first", "unicode/utf8.acceptRanges"], apart := false, laid := [("unicode/utf8.acceptRanges", laid_unicode_utf8_acceptRanges), ("unicode/utf8.first", laid_unicode_utf8_first)] }
def SessionSubsSaid : Prop := sessionSubsRow.holds Tryz.pinned (OpenSpec.ofChange sessionSubsSpec)

/-- ITS FALSE NEIGHBOUR: 'it returns false'. Refute it at one input. -/
def sessionSubsWrong : ChangeSpec := { name := "sessionSubs", fn := fun _ => fun
  | [d1, d2, d3] => { results := [.lit (.bool false)], args := [d1, d2, d3] }
  | _ => none }
def SessionSubsWrongFalsely : Prop := sessionSubsRow.holds Tryz.pinned (OpenSpec.ofChange sessionSubsWrong)

/-- 'brokerlaw19.SessionNew': WHATEVER THE INPUT: true; the input reads as it did. -/
def sessionNewSpec : ChangeSpec := { name := "sessionNew", fn := fun _ => fun
  | [d1, d2] => { results := [.lit (.bool true)], args := [d1, d2] }
  | _ => none }
def sessionNewRow : OpenClaim := { program := "ytojlmojebnlmdaagreatdoor", sum := "e817e8024bbf6d6f09de6268ed86ecca911889c4a8dd6ab8342edf95b945b28f", func := "broker/brokerlaw19.SessionNew", spec := "sessionNew", inPlace := ["internal/bytealg.IndexByteString", "internal/bytealg.IndexString", "internal/bytealg.CountString", "internal/bytealg.abigen_runtime_cmpstring", "slices.overlaps[broker/api.Sub]", "slices.overlaps[int]"], unfollowed := true, recurses := true, named := ["internal/bytealg.MaxLen", "unicode/utf8.first", "unicode/utf8.acceptRanges"], apart := false, laid := [("unicode/utf8.acceptRanges", laid_unicode_utf8_acceptRanges), ("unicode/utf8.first", laid_unicode_utf8_first)] }
def SessionNewSaid : Prop := sessionNewRow.holds Tryz.pinned (OpenSpec.ofChange sessionNewSpec)

/-- ITS FALSE NEIGHBOUR: 'it returns false'. Refute it at one input. -/
def sessionNewWrong : ChangeSpec := { name := "sessionNew", fn := fun _ => fun
  | [d1, d2] => { results := [.lit (.bool false)], args := [d1, d2] }
  | _ => none }
def SessionNewWrongFalsely : Prop := sessionNewRow.holds Tryz.pinned (OpenSpec.ofChange sessionNewWrong)

/-- 'brokerlaw19.SessionChecks': WHATEVER THE INPUT: true; the input reads as it did. -/
def sessionChecksSpec : ChangeSpec := { name := "sessionChecks", fn := fun _ => fun
  | [d] => { results := [.lit (.bool true)], args := [d] }
  | _ => none }
def sessionChecksRow : OpenClaim := { program := "ytojlmojebnlmdaagreatdoor", sum := "e817e8024bbf6d6f09de6268ed86ecca911889c4a8dd6ab8342edf95b945b28f", func := "broker/brokerlaw19.SessionChecks", spec := "sessionChecks", inPlace := ["internal/bytealg.IndexByteString", "internal/bytealg.IndexString", "internal/bytealg.CountString", "internal/bytealg.abigen_runtime_cmpstring", "slices.overlaps[broker/api.Sub]", "slices.overlaps[int]"], unfollowed := true, recurses := true, named := ["internal/bytealg.MaxLen", "unicode/utf8.first", "unicode/utf8.acceptRanges"], apart := false, laid := [("unicode/utf8.acceptRanges", laid_unicode_utf8_acceptRanges), ("unicode/utf8.first", laid_unicode_utf8_first)] }
def SessionChecksSaid : Prop := sessionChecksRow.holds Tryz.pinned (OpenSpec.ofChange sessionChecksSpec)

/-- ITS FALSE NEIGHBOUR: 'it returns false'. Refute it at one input. -/
def sessionChecksWrong : ChangeSpec := { name := "sessionChecks", fn := fun _ => fun
  | [d] => { results := [.lit (.bool false)], args := [d] }
  | _ => none }
def SessionChecksWrongFalsely : Prop := sessionChecksRow.holds Tryz.pinned (OpenSpec.ofChange sessionChecksWrong)

/-- 'brokerlaw19.SessionPulls': WHATEVER THE INPUT: true; the input reads as it did. -/
def sessionPullsSpec : ChangeSpec := { name := "sessionPulls", fn := fun _ => fun
  | [d1, d2] => { results := [.lit (.bool true)], args := [d1, d2] }
  | _ => none }
def sessionPullsRow : OpenClaim := { program := "ytojlmojebnlmdaagreatdoor", sum := "e817e8024bbf6d6f09de6268ed86ecca911889c4a8dd6ab8342edf95b945b28f", func := "broker/brokerlaw19.SessionPulls", spec := "sessionPulls", inPlace := ["internal/bytealg.IndexByteString", "internal/bytealg.IndexString", "internal/bytealg.CountString", "internal/bytealg.abigen_runtime_cmpstring", "slices.overlaps[broker/api.Sub]", "slices.overlaps[int]"], unfollowed := true, recurses := true, named := ["internal/bytealg.MaxLen", "unicode/utf8.first", "unicode/utf8.acceptRanges"], apart := false, laid := [("unicode/utf8.acceptRanges", laid_unicode_utf8_acceptRanges), ("unicode/utf8.first", laid_unicode_utf8_first)] }
def SessionPullsSaid : Prop := sessionPullsRow.holds Tryz.pinned (OpenSpec.ofChange sessionPullsSpec)

/-- ITS FALSE NEIGHBOUR: 'it returns false'. Refute it at one input. -/
def sessionPullsWrong : ChangeSpec := { name := "sessionPulls", fn := fun _ => fun
  | [d1, d2] => { results := [.lit (.bool false)], args := [d1, d2] }
  | _ => none }
def SessionPullsWrongFalsely : Prop := sessionPullsRow.holds Tryz.pinned (OpenSpec.ofChange sessionPullsWrong)

/-- 'brokerlaw19.SessionResumes': WHATEVER THE INPUT: true; the input reads as it did. -/
def sessionResumesSpec : ChangeSpec := { name := "sessionResumes", fn := fun _ => fun
  | [d1, d2, d3, d4] => { results := [.lit (.bool true)], args := [d1, d2, d3, d4] }
  | _ => none }
def sessionResumesRow : OpenClaim := { program := "ytojlmojebnlmdaagreatdoor", sum := "e817e8024bbf6d6f09de6268ed86ecca911889c4a8dd6ab8342edf95b945b28f", func := "broker/brokerlaw19.SessionResumes", spec := "sessionResumes", inPlace := ["internal/bytealg.IndexByteString", "internal/bytealg.IndexString", "internal/bytealg.CountString", "internal/bytealg.abigen_runtime_cmpstring", "slices.overlaps[broker/api.Sub]", "slices.overlaps[int]"], unfollowed := true, recurses := true, named := ["internal/bytealg.MaxLen", "unicode/utf8.first", "unicode/utf8.acceptRanges"], apart := false, laid := [("unicode/utf8.acceptRanges", laid_unicode_utf8_acceptRanges), ("unicode/utf8.first", laid_unicode_utf8_first)] }
def SessionResumesSaid : Prop := sessionResumesRow.holds Tryz.pinned (OpenSpec.ofChange sessionResumesSpec)

/-- ITS FALSE NEIGHBOUR: 'it returns false'. Refute it at one input. -/
def sessionResumesWrong : ChangeSpec := { name := "sessionResumes", fn := fun _ => fun
  | [d1, d2, d3, d4] => { results := [.lit (.bool false)], args := [d1, d2, d3, d4] }
  | _ => none }
def SessionResumesWrongFalsely : Prop := sessionResumesRow.holds Tryz.pinned (OpenSpec.ofChange sessionResumesWrong)

/-- 'brokerlaw19.SessionParts': WHATEVER THE INPUT: true; the input reads as it did. -/
def sessionPartsSpec : ChangeSpec := { name := "sessionParts", fn := fun _ => fun
  | [d1, d2, d3, d4] => { results := [.lit (.bool true)], args := [d1, d2, d3, d4] }
  | _ => none }
def sessionPartsRow : OpenClaim := { program := "ytojlmojebnlmdaagreatdoor", sum := "e817e8024bbf6d6f09de6268ed86ecca911889c4a8dd6ab8342edf95b945b28f", func := "broker/brokerlaw19.SessionParts", spec := "sessionParts", inPlace := ["slices.overlaps[int]", "internal/bytealg.IndexByteString", "internal/bytealg.IndexString", "internal/bytealg.CountString", "internal/bytealg.abigen_runtime_cmpstring", "slices.overlaps[broker/api.Sub]"], unfollowed := true, recurses := true, named := ["internal/bytealg.MaxLen", "unicode/utf8.first", "unicode/utf8.acceptRanges"], apart := false, laid := [("unicode/utf8.acceptRanges", laid_unicode_utf8_acceptRanges), ("unicode/utf8.first", laid_unicode_utf8_first)] }
def SessionPartsSaid : Prop := sessionPartsRow.holds Tryz.pinned (OpenSpec.ofChange sessionPartsSpec)

/-- ITS FALSE NEIGHBOUR: 'it returns false'. Refute it at one input. -/
def sessionPartsWrong : ChangeSpec := { name := "sessionParts", fn := fun _ => fun
  | [d1, d2, d3, d4] => { results := [.lit (.bool false)], args := [d1, d2, d3, d4] }
  | _ => none }
def SessionPartsWrongFalsely : Prop := sessionPartsRow.holds Tryz.pinned (OpenSpec.ofChange sessionPartsWrong)

/- THE SECOND FORM. 'bulk': how many values and letters a reading holds, each counted each time it is reached (what is shared counts as often as it is met; a slice's spare places count too). A statement '..UptoSaid' is the law's where the arguments, and the package variables that the reading takes, are together of bulk at most 1048576: NARROWER than '..Said'. Prove '..Said' where nothing that the law and all that it calls make is longer than what came in: it says more and counts as full. Else prove '..UptoSaid'. A law counts once. -/
mutual
def uptoBulk {H : Type} : DataW H → Nat
  | .lit (.string bytes) => bytes.length + 1
  | .lit _ => 1
  | .nil => 1
  | .ptr d => uptoBulk d + 1
  | .slice elems spare => uptoBulkAll elems + uptoBulkAll spare + 1
  | .agg parts => uptoBulkAll parts + 1
  | .iface _ d => uptoBulk d + 1
  | .map entries => uptoBulkEntries entries + 1
  | .held _ => 1
def uptoBulkAll {H : Type} : List (DataW H) → Nat
  | [] => 0
  | d :: r => uptoBulk d + uptoBulkAll r
def uptoBulkEntries {H : Type} : List (Lit × DataW H) → Nat
  | [] => 0
  | x :: r => uptoBulkEntry x + uptoBulkEntries r
def uptoBulkEntry {H : Type} : Lit × DataW H → Nat
  | (.string bytes, d) => bytes.length + uptoBulk d + 1
  | (_, d) => uptoBulk d + 1
 end
def uptoSmall : (H : Type) → List (DataW H) → Bool := fun _ ds => decide (uptoBulkAll ds ≤ 1048576)
def OpenSpec.upto (s : _root_.Go.ChangeSpec) : _root_.Go.OpenSpec := { _root_.Go.OpenSpec.ofChange s with cond := some uptoSmall }

/-- 'brokerlaw19.SessionOffers', WHERE WHAT IT READS IS OF BULK AT MOST 1048576: true; the input reads as it did. -/
def sessionOffersUptoRow : OpenClaim := { program := "ytojlmojebnlmdaagreatdoor", sum := "e817e8024bbf6d6f09de6268ed86ecca911889c4a8dd6ab8342edf95b945b28f", func := "broker/brokerlaw19.SessionOffers", spec := "sessionOffers", inPlace := ["internal/bytealg.IndexByteString", "internal/bytealg.IndexString", "internal/bytealg.CountString", "internal/bytealg.abigen_runtime_cmpstring", "slices.overlaps[broker/api.Sub]", "slices.overlaps[int]"], unfollowed := true, recurses := true, named := ["internal/bytealg.MaxLen", "unicode/utf8.first", "unicode/utf8.acceptRanges"], apart := false, laid := [("unicode/utf8.acceptRanges", laid_unicode_utf8_acceptRanges), ("unicode/utf8.first", laid_unicode_utf8_first)], narrowed := true }
def SessionOffersUptoSaid : Prop := sessionOffersUptoRow.holds Tryz.pinned (OpenSpec.upto sessionOffersSpec)

/-- 'brokerlaw19.SessionHandles', WHERE WHAT IT READS IS OF BULK AT MOST 1048576: true; the input reads as it did. -/
def sessionHandlesUptoRow : OpenClaim := { program := "ytojlmojebnlmdaagreatdoor", sum := "e817e8024bbf6d6f09de6268ed86ecca911889c4a8dd6ab8342edf95b945b28f", func := "broker/brokerlaw19.SessionHandles", spec := "sessionHandles", inPlace := ["internal/bytealg.IndexByteString", "internal/bytealg.IndexString", "internal/bytealg.CountString", "internal/bytealg.abigen_runtime_cmpstring", "slices.overlaps[broker/api.Sub]", "slices.overlaps[int]"], unfollowed := true, recurses := true, named := ["internal/bytealg.MaxLen", "unicode/utf8.first", "unicode/utf8.acceptRanges"], apart := false, laid := [("unicode/utf8.acceptRanges", laid_unicode_utf8_acceptRanges), ("unicode/utf8.first", laid_unicode_utf8_first)], narrowed := true }
def SessionHandlesUptoSaid : Prop := sessionHandlesUptoRow.holds Tryz.pinned (OpenSpec.upto sessionHandlesSpec)

/-- 'brokerlaw19.SessionExpires', WHERE WHAT IT READS IS OF BULK AT MOST 1048576: true; the input reads as it did. -/
def sessionExpiresUptoRow : OpenClaim := { program := "ytojlmojebnlmdaagreatdoor", sum := "e817e8024bbf6d6f09de6268ed86ecca911889c4a8dd6ab8342edf95b945b28f", func := "broker/brokerlaw19.SessionExpires", spec := "sessionExpires", inPlace := ["internal/bytealg.IndexByteString", "internal/bytealg.IndexString", "internal/bytealg.CountString", "internal/bytealg.abigen_runtime_cmpstring", "slices.overlaps[broker/api.Sub]", "slices.overlaps[int]"], unfollowed := true, recurses := true, named := ["internal/bytealg.MaxLen", "unicode/utf8.first", "unicode/utf8.acceptRanges"], apart := false, laid := [("unicode/utf8.acceptRanges", laid_unicode_utf8_acceptRanges), ("unicode/utf8.first", laid_unicode_utf8_first)], narrowed := true }
def SessionExpiresUptoSaid : Prop := sessionExpiresUptoRow.holds Tryz.pinned (OpenSpec.upto sessionExpiresSpec)

/-- 'brokerlaw19.SessionSubs', WHERE WHAT IT READS IS OF BULK AT MOST 1048576: true; the input reads as it did. -/
def sessionSubsUptoRow : OpenClaim := { program := "ytojlmojebnlmdaagreatdoor", sum := "e817e8024bbf6d6f09de6268ed86ecca911889c4a8dd6ab8342edf95b945b28f", func := "broker/brokerlaw19.SessionSubs", spec := "sessionSubs", inPlace := ["internal/bytealg.IndexByteString", "internal/bytealg.IndexString", "internal/bytealg.CountString", "internal/bytealg.abigen_runtime_cmpstring", "slices.overlaps[broker/api.Sub]", "slices.overlaps[int]"], unfollowed := true, recurses := true, named := ["internal/bytealg.MaxLen", "unicode/utf8.first", "unicode/utf8.acceptRanges"], apart := false, laid := [("unicode/utf8.acceptRanges", laid_unicode_utf8_acceptRanges), ("unicode/utf8.first", laid_unicode_utf8_first)], narrowed := true }
def SessionSubsUptoSaid : Prop := sessionSubsUptoRow.holds Tryz.pinned (OpenSpec.upto sessionSubsSpec)

/-- 'brokerlaw19.SessionNew', WHERE WHAT IT READS IS OF BULK AT MOST 1048576: true; the input reads as it did. -/
def sessionNewUptoRow : OpenClaim := { program := "ytojlmojebnlmdaagreatdoor", sum := "e817e8024bbf6d6f09de6268ed86ecca911889c4a8dd6ab8342edf95b945b28f", func := "broker/brokerlaw19.SessionNew", spec := "sessionNew", inPlace := ["internal/bytealg.IndexByteString", "internal/bytealg.IndexString", "internal/bytealg.CountString", "internal/bytealg.abigen_runtime_cmpstring", "slices.overlaps[broker/api.Sub]", "slices.overlaps[int]"], unfollowed := true, recurses := true, named := ["internal/bytealg.MaxLen", "unicode/utf8.first", "unicode/utf8.acceptRanges"], apart := false, laid := [("unicode/utf8.acceptRanges", laid_unicode_utf8_acceptRanges), ("unicode/utf8.first", laid_unicode_utf8_first)], narrowed := true }
def SessionNewUptoSaid : Prop := sessionNewUptoRow.holds Tryz.pinned (OpenSpec.upto sessionNewSpec)

/-- 'brokerlaw19.SessionChecks', WHERE WHAT IT READS IS OF BULK AT MOST 1048576: true; the input reads as it did. -/
def sessionChecksUptoRow : OpenClaim := { program := "ytojlmojebnlmdaagreatdoor", sum := "e817e8024bbf6d6f09de6268ed86ecca911889c4a8dd6ab8342edf95b945b28f", func := "broker/brokerlaw19.SessionChecks", spec := "sessionChecks", inPlace := ["internal/bytealg.IndexByteString", "internal/bytealg.IndexString", "internal/bytealg.CountString", "internal/bytealg.abigen_runtime_cmpstring", "slices.overlaps[broker/api.Sub]", "slices.overlaps[int]"], unfollowed := true, recurses := true, named := ["internal/bytealg.MaxLen", "unicode/utf8.first", "unicode/utf8.acceptRanges"], apart := false, laid := [("unicode/utf8.acceptRanges", laid_unicode_utf8_acceptRanges), ("unicode/utf8.first", laid_unicode_utf8_first)], narrowed := true }
def SessionChecksUptoSaid : Prop := sessionChecksUptoRow.holds Tryz.pinned (OpenSpec.upto sessionChecksSpec)

/-- 'brokerlaw19.SessionPulls', WHERE WHAT IT READS IS OF BULK AT MOST 1048576: true; the input reads as it did. -/
def sessionPullsUptoRow : OpenClaim := { program := "ytojlmojebnlmdaagreatdoor", sum := "e817e8024bbf6d6f09de6268ed86ecca911889c4a8dd6ab8342edf95b945b28f", func := "broker/brokerlaw19.SessionPulls", spec := "sessionPulls", inPlace := ["internal/bytealg.IndexByteString", "internal/bytealg.IndexString", "internal/bytealg.CountString", "internal/bytealg.abigen_runtime_cmpstring", "slices.overlaps[broker/api.Sub]", "slices.overlaps[int]"], unfollowed := true, recurses := true, named := ["internal/bytealg.MaxLen", "unicode/utf8.first", "unicode/utf8.acceptRanges"], apart := false, laid := [("unicode/utf8.acceptRanges", laid_unicode_utf8_acceptRanges), ("unicode/utf8.first", laid_unicode_utf8_first)], narrowed := true }
def SessionPullsUptoSaid : Prop := sessionPullsUptoRow.holds Tryz.pinned (OpenSpec.upto sessionPullsSpec)

/-- 'brokerlaw19.SessionResumes', WHERE WHAT IT READS IS OF BULK AT MOST 1048576: true; the input reads as it did. -/
def sessionResumesUptoRow : OpenClaim := { program := "ytojlmojebnlmdaagreatdoor", sum := "e817e8024bbf6d6f09de6268ed86ecca911889c4a8dd6ab8342edf95b945b28f", func := "broker/brokerlaw19.SessionResumes", spec := "sessionResumes", inPlace := ["internal/bytealg.IndexByteString", "internal/bytealg.IndexString", "internal/bytealg.CountString", "internal/bytealg.abigen_runtime_cmpstring", "slices.overlaps[broker/api.Sub]", "slices.overlaps[int]"], unfollowed := true, recurses := true, named := ["internal/bytealg.MaxLen", "unicode/utf8.first", "unicode/utf8.acceptRanges"], apart := false, laid := [("unicode/utf8.acceptRanges", laid_unicode_utf8_acceptRanges), ("unicode/utf8.first", laid_unicode_utf8_first)], narrowed := true }
def SessionResumesUptoSaid : Prop := sessionResumesUptoRow.holds Tryz.pinned (OpenSpec.upto sessionResumesSpec)

/-- 'brokerlaw19.SessionParts', WHERE WHAT IT READS IS OF BULK AT MOST 1048576: true; the input reads as it did. -/
def sessionPartsUptoRow : OpenClaim := { program := "ytojlmojebnlmdaagreatdoor", sum := "e817e8024bbf6d6f09de6268ed86ecca911889c4a8dd6ab8342edf95b945b28f", func := "broker/brokerlaw19.SessionParts", spec := "sessionParts", inPlace := ["slices.overlaps[int]", "internal/bytealg.IndexByteString", "internal/bytealg.IndexString", "internal/bytealg.CountString", "internal/bytealg.abigen_runtime_cmpstring", "slices.overlaps[broker/api.Sub]"], unfollowed := true, recurses := true, named := ["internal/bytealg.MaxLen", "unicode/utf8.first", "unicode/utf8.acceptRanges"], apart := false, laid := [("unicode/utf8.acceptRanges", laid_unicode_utf8_acceptRanges), ("unicode/utf8.first", laid_unicode_utf8_first)], narrowed := true }
def SessionPartsUptoSaid : Prop := sessionPartsUptoRow.holds Tryz.pinned (OpenSpec.upto sessionPartsSpec)

end Rows
end Go.Proofs.YtojlmojebnlmdaaGreatDoor
