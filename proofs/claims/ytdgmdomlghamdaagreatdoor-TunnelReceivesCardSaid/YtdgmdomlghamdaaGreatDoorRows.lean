/-
  NARROWER THAN 'FOR EVERY INPUT', by the rows' own cells (each row's printed sentence says how): TunnelSends: laid · TunnelReceives: laid · TunnelPrefix: laid · TunnelDamaged: laid.
  DERIVED. THE GIVEN ROWS OF THIS SEAT. 4 by the template 'for every input the law returns true; each argument reads behind the call as it read before'; 0 by the template 'total and deterministic' (their statements: YtdgmdomlghamdaaGreatDoorTotals.lean).
  GIVEN WITH THE SEED: the statements are not yours to turn. If you find one false, say at which input.
  Laid BY PROGRAM, IN A SANDBOX (cutbox-rows.mjs): the forced cells as the released guide's own fill.sh prints them over the translation 4b6527979e0d315d… (all of the seat's roots in one cut). By AI agents, Wed Nov 11 2026. No macro, syntax, notation, axiom, sorry.
-/
import Derived.Test.YtdgmdomlghamdaaGreatDoorChecked
import GoSem.PinnedTables
import GoSem.Claim
import GoSem.ClaimJoined
import GoSem.ClaimMapViews
import Derived.JoinedTies
import Derived.KernelRfl
namespace Go.Proofs.YtdgmdomlghamdaaGreatDoor
/- THE CELL 'sum', in the pinned program and in every row, IS THE sha256 OF THE DUMP (.gsa) THAT YtdgmdomlghamdaaGreatDoorProg.lean LOADS. Nothing in Lean hashes anything: it is a label: what it is worth is what the hold of that sum in a sandbox is worth. -/
noncomputable def Tryz.pinned : Pinned := { name := "ytdgmdomlghamdaagreatdoor", sum := "4b6527979e0d315dcdffa925cd6745b9f4a4a232ad7657f6e8ba448b1f971640", checked := Tryz.checked }
namespace Rows
def none {H : Type} : Left H := { results := [], args := [] }

/- WHAT THE LISTED PACKAGE-LEVEL VARIABLES READ AS WHEN THE CALL BEGINS. Each datum BY PROGRAM (the guide's laid-datum.mjs) off the statement by which the dump's own 'gosem.cut.vars' lays the variable. In a bare row this is a premise. The card (YtdgmdomlghamdaaGreatDoorCards.lean) ties it to the program's text. -/
def laid_unicode_utf8_acceptRanges {H : Type} : DataW H := .agg [.agg [.lit (.int .u8 128), .lit (.int .u8 191)], .agg [.lit (.int .u8 160), .lit (.int .u8 191)], .agg [.lit (.int .u8 128), .lit (.int .u8 159)], .agg [.lit (.int .u8 144), .lit (.int .u8 191)], .agg [.lit (.int .u8 128), .lit (.int .u8 143)], .agg [.lit (.int .u8 0), .lit (.int .u8 0)], .agg [.lit (.int .u8 0), .lit (.int .u8 0)], .agg [.lit (.int .u8 0), .lit (.int .u8 0)], .agg [.lit (.int .u8 0), .lit (.int .u8 0)], .agg [.lit (.int .u8 0), .lit (.int .u8 0)], .agg [.lit (.int .u8 0), .lit (.int .u8 0)], .agg [.lit (.int .u8 0), .lit (.int .u8 0)], .agg [.lit (.int .u8 0), .lit (.int .u8 0)], .agg [.lit (.int .u8 0), .lit (.int .u8 0)], .agg [.lit (.int .u8 0), .lit (.int .u8 0)], .agg [.lit (.int .u8 0), .lit (.int .u8 0)]]
/-- One of Go's own tables, pinned by name: the form's constant. -/
def laid_unicode_utf8_first : DataW Unit := Go.Pinned.utf8First

/-- 'brokerlaw09.TunnelSends': WHATEVER THE INPUT: true; the input reads as it did. -/
def tunnelSendsSpec : ChangeSpec := { name := "tunnelSends", fn := fun _ => fun
  | [d1, d2] => { results := [.lit (.bool true)], args := [d1, d2] }
  | _ => none }
def tunnelSendsRow : OpenClaim := { program := "ytdgmdomlghamdaagreatdoor", sum := "4b6527979e0d315dcdffa925cd6745b9f4a4a232ad7657f6e8ba448b1f971640", func := "broker/brokerlaw09.TunnelSends", spec := "tunnelSends", inPlace := ["internal/bytealg.IndexByteString", "internal/bytealg.IndexString", "internal/bytealg.CountString"], unfollowed := true, recurses := true, named := ["internal/bytealg.MaxLen", "unicode/utf8.first", "unicode/utf8.acceptRanges"], apart := false, laid := [("unicode/utf8.acceptRanges", laid_unicode_utf8_acceptRanges), ("unicode/utf8.first", laid_unicode_utf8_first)] }
def TunnelSendsSaid : Prop := tunnelSendsRow.holds Tryz.pinned (OpenSpec.ofChange tunnelSendsSpec)

/-- ITS FALSE NEIGHBOUR: 'it returns false'. Refute it at one input. -/
def tunnelSendsWrong : ChangeSpec := { name := "tunnelSends", fn := fun _ => fun
  | [d1, d2] => { results := [.lit (.bool false)], args := [d1, d2] }
  | _ => none }
def TunnelSendsWrongFalsely : Prop := tunnelSendsRow.holds Tryz.pinned (OpenSpec.ofChange tunnelSendsWrong)

/-- 'brokerlaw09.TunnelReceives': WHATEVER THE INPUT: true; the input reads as it did. -/
def tunnelReceivesSpec : ChangeSpec := { name := "tunnelReceives", fn := fun _ => fun
  | [d1, d2] => { results := [.lit (.bool true)], args := [d1, d2] }
  | _ => none }
def tunnelReceivesRow : OpenClaim := { program := "ytdgmdomlghamdaagreatdoor", sum := "4b6527979e0d315dcdffa925cd6745b9f4a4a232ad7657f6e8ba448b1f971640", func := "broker/brokerlaw09.TunnelReceives", spec := "tunnelReceives", inPlace := ["internal/bytealg.IndexByteString", "internal/bytealg.IndexString", "internal/bytealg.CountString"], unfollowed := true, recurses := true, named := ["internal/bytealg.MaxLen", "unicode/utf8.first", "unicode/utf8.acceptRanges"], apart := false, laid := [("unicode/utf8.acceptRanges", laid_unicode_utf8_acceptRanges), ("unicode/utf8.first", laid_unicode_utf8_first)] }
def TunnelReceivesSaid : Prop := tunnelReceivesRow.holds Tryz.pinned (OpenSpec.ofChange tunnelReceivesSpec)

/-- ITS FALSE NEIGHBOUR: 'it returns false'. Refute it at one input. -/
def tunnelReceivesWrong : ChangeSpec := { name := "tunnelReceives", fn := fun _ => fun
  | [d1, d2] => { results := [.lit (.bool false)], args := [d1, d2] }
  | _ => none }
def TunnelReceivesWrongFalsely : Prop := tunnelReceivesRow.holds Tryz.pinned (OpenSpec.ofChange tunnelReceivesWrong)

/-- 'brokerlaw09.TunnelPrefix': WHATEVER THE INPUT: true; the input reads as it did. -/
def tunnelPrefixSpec : ChangeSpec := { name := "tunnelPrefix", fn := fun _ => fun
  | [d1, d2, d3] => { results := [.lit (.bool true)], args := [d1, d2, d3] }
  | _ => none }
def tunnelPrefixRow : OpenClaim := { program := "ytdgmdomlghamdaagreatdoor", sum := "4b6527979e0d315dcdffa925cd6745b9f4a4a232ad7657f6e8ba448b1f971640", func := "broker/brokerlaw09.TunnelPrefix", spec := "tunnelPrefix", inPlace := ["internal/bytealg.IndexByteString", "internal/bytealg.IndexString", "internal/bytealg.CountString"], unfollowed := true, recurses := true, named := ["internal/bytealg.MaxLen", "unicode/utf8.first", "unicode/utf8.acceptRanges"], apart := false, laid := [("unicode/utf8.acceptRanges", laid_unicode_utf8_acceptRanges), ("unicode/utf8.first", laid_unicode_utf8_first)] }
def TunnelPrefixSaid : Prop := tunnelPrefixRow.holds Tryz.pinned (OpenSpec.ofChange tunnelPrefixSpec)

/-- ITS FALSE NEIGHBOUR: 'it returns false'. Refute it at one input. -/
def tunnelPrefixWrong : ChangeSpec := { name := "tunnelPrefix", fn := fun _ => fun
  | [d1, d2, d3] => { results := [.lit (.bool false)], args := [d1, d2, d3] }
  | _ => none }
def TunnelPrefixWrongFalsely : Prop := tunnelPrefixRow.holds Tryz.pinned (OpenSpec.ofChange tunnelPrefixWrong)

/-- 'brokerlaw09.TunnelDamaged': WHATEVER THE INPUT: true; the input reads as it did. -/
def tunnelDamagedSpec : ChangeSpec := { name := "tunnelDamaged", fn := fun _ => fun
  | [d1, d2, d3] => { results := [.lit (.bool true)], args := [d1, d2, d3] }
  | _ => none }
def tunnelDamagedRow : OpenClaim := { program := "ytdgmdomlghamdaagreatdoor", sum := "4b6527979e0d315dcdffa925cd6745b9f4a4a232ad7657f6e8ba448b1f971640", func := "broker/brokerlaw09.TunnelDamaged", spec := "tunnelDamaged", inPlace := ["internal/bytealg.IndexByteString", "internal/bytealg.IndexString", "internal/bytealg.CountString"], unfollowed := true, recurses := true, named := ["internal/bytealg.MaxLen", "unicode/utf8.first", "unicode/utf8.acceptRanges"], apart := false, laid := [("unicode/utf8.acceptRanges", laid_unicode_utf8_acceptRanges), ("unicode/utf8.first", laid_unicode_utf8_first)] }
def TunnelDamagedSaid : Prop := tunnelDamagedRow.holds Tryz.pinned (OpenSpec.ofChange tunnelDamagedSpec)

/-- ITS FALSE NEIGHBOUR: 'it returns false'. Refute it at one input. -/
def tunnelDamagedWrong : ChangeSpec := { name := "tunnelDamaged", fn := fun _ => fun
  | [d1, d2, d3] => { results := [.lit (.bool false)], args := [d1, d2, d3] }
  | _ => none }
def TunnelDamagedWrongFalsely : Prop := tunnelDamagedRow.holds Tryz.pinned (OpenSpec.ofChange tunnelDamagedWrong)

/- THE SECOND FORM. 'bulk': how many values and letters a reading holds, each counted each time it is reached (what is shared counts as often as it is met; a slice's spare places count too). A statement '..UptoSaid' is the law's where the arguments, and the package variables that the reading takes, are together of bulk at most 1048576: NARROWER than '..Said'. Prove '..Said' where nothing that the law and all that it calls make is longer than what came in: it says more and counts as full. Else prove '..UptoSaid'. A law counts once. -/
mutual
def uptoBulk {H : Type} : DataW H → Nat
  | .lit (.string bytes) => bytes.length + 1
  | .lit _ => 1
  | .nil => 1
  | .ptr d => uptoBulk d + 1
  | .slice elems spare => uptoBulkAll elems + uptoBulkAll spare + 1
  | .agg parts => uptoBulkAll parts + 1
  | .iface _ d => uptoBulk d + 1
  | .map entries => uptoBulkEntries entries + 1
  | .held _ => 1
def uptoBulkAll {H : Type} : List (DataW H) → Nat
  | [] => 0
  | d :: r => uptoBulk d + uptoBulkAll r
def uptoBulkEntries {H : Type} : List (Lit × DataW H) → Nat
  | [] => 0
  | x :: r => uptoBulkEntry x + uptoBulkEntries r
def uptoBulkEntry {H : Type} : Lit × DataW H → Nat
  | (.string bytes, d) => bytes.length + uptoBulk d + 1
  | (_, d) => uptoBulk d + 1
 end
def uptoSmall : (H : Type) → List (DataW H) → Bool := fun _ ds => decide (uptoBulkAll ds ≤ 1048576)
def OpenSpec.upto (s : _root_.Go.ChangeSpec) : _root_.Go.OpenSpec := { _root_.Go.OpenSpec.ofChange s with cond := some uptoSmall }

/-- 'brokerlaw09.TunnelSends', WHERE WHAT IT READS IS OF BULK AT MOST 1048576: true; the input reads as it did. -/
def tunnelSendsUptoRow : OpenClaim := { program := "ytdgmdomlghamdaagreatdoor", sum := "4b6527979e0d315dcdffa925cd6745b9f4a4a232ad7657f6e8ba448b1f971640", func := "broker/brokerlaw09.TunnelSends", spec := "tunnelSends", inPlace := ["internal/bytealg.IndexByteString", "internal/bytealg.IndexString", "internal/bytealg.CountString"], unfollowed := true, recurses := true, named := ["internal/bytealg.MaxLen", "unicode/utf8.first", "unicode/utf8.acceptRanges"], apart := false, laid := [("unicode/utf8.acceptRanges", laid_unicode_utf8_acceptRanges), ("unicode/utf8.first", laid_unicode_utf8_first)], narrowed := true }
def TunnelSendsUptoSaid : Prop := tunnelSendsUptoRow.holds Tryz.pinned (OpenSpec.upto tunnelSendsSpec)

/-- 'brokerlaw09.TunnelReceives', WHERE WHAT IT READS IS OF BULK AT MOST 1048576: true; the input reads as it did. -/
def tunnelReceivesUptoRow : OpenClaim := { program := "ytdgmdomlghamdaagreatdoor", sum := "4b6527979e0d315dcdffa925cd6745b9f4a4a232ad7657f6e8ba448b1f971640", func := "broker/brokerlaw09.TunnelReceives", spec := "tunnelReceives", inPlace := ["internal/bytealg.IndexByteString", "internal/bytealg.IndexString", "internal/bytealg.CountString"], unfollowed := true, recurses := true, named := ["internal/bytealg.MaxLen", "unicode/utf8.first", "unicode/utf8.acceptRanges"], apart := false, laid := [("unicode/utf8.acceptRanges", laid_unicode_utf8_acceptRanges), ("unicode/utf8.first", laid_unicode_utf8_first)], narrowed := true }
def TunnelReceivesUptoSaid : Prop := tunnelReceivesUptoRow.holds Tryz.pinned (OpenSpec.upto tunnelReceivesSpec)

/-- 'brokerlaw09.TunnelPrefix', WHERE WHAT IT READS IS OF BULK AT MOST 1048576: true; the input reads as it did. -/
def tunnelPrefixUptoRow : OpenClaim := { program := "ytdgmdomlghamdaagreatdoor", sum := "4b6527979e0d315dcdffa925cd6745b9f4a4a232ad7657f6e8ba448b1f971640", func := "broker/brokerlaw09.TunnelPrefix", spec := "tunnelPrefix", inPlace := ["internal/bytealg.IndexByteString", "internal/bytealg.IndexString", "internal/bytealg.CountString"], unfollowed := true, recurses := true, named := ["internal/bytealg.MaxLen", "unicode/utf8.first", "unicode/utf8.acceptRanges"], apart := false, laid := [("unicode/utf8.acceptRanges", laid_unicode_utf8_acceptRanges), ("unicode/utf8.first", laid_unicode_utf8_first)], narrowed := true }
def TunnelPrefixUptoSaid : Prop := tunnelPrefixUptoRow.holds Tryz.pinned (OpenSpec.upto tunnelPrefixSpec)

/-- 'brokerlaw09.TunnelDamaged', WHERE WHAT IT READS IS OF BULK AT MOST 1048576: true; the input reads as it did. -/
def tunnelDamagedUptoRow : OpenClaim := { program := "ytdgmdomlghamdaagreatdoor", sum := "4b6527979e0d315dcdffa925cd6745b9f4a4a232ad7657f6e8ba448b1f971640", func := "broker/brokerlaw09.TunnelDamaged", spec := "tunnelDamaged", inPlace := ["internal/bytealg.IndexByteString", "internal/bytealg.IndexString", "internal/bytealg.CountString"], unfollowed := true, recurses := true, named := ["internal/bytealg.MaxLen", "unicode/utf8.first", "unicode/utf8.acceptRanges"], apart := false, laid := [("unicode/utf8.acceptRanges", laid_unicode_utf8_acceptRanges), ("unicode/utf8.first", laid_unicode_utf8_first)], narrowed := true }
def TunnelDamagedUptoSaid : Prop := tunnelDamagedUptoRow.holds Tryz.pinned (OpenSpec.upto tunnelDamagedSpec)

end Rows
end Go.Proofs.YtdgmdomlghamdaaGreatDoor
