/-
  DERIVED. GIVEN WITH THE SEED: THE CARDS: each row of YtcfpheihkbkloaaDoorRows.lean that lists a variable, with what it lists TIED to the program's text (the seventh form; the later family's looks); each row that meets fmt, with fmt's text TOLD by the authors' own Lean function (tested against real Go, not proved from fmt's source: count such statements apart). THE CARD IS WHAT COUNTS. Prove the row's statement (the work); the ties are given (YtcfpheihkbkloaaDoorTie.lean); close each card by the builder's one call (the guide's Derived/Test/ToyasCard.lean, 'card_holds'). Laid BY PROGRAM, IN A SANDBOX (cutbox-door.mjs). By AI agents, Wed Nov 11 2026. No macro, syntax, notation, axiom, sorry.
-/
import Derived.Test.YtcfpheihkbkloaaDoorRows
import GoSem.ClaimSeven
namespace Go.Proofs.YtcfpheihkbkloaaDoor
namespace Rows

/-- THE TIED CARD OF 'brokerlaw15.InboundChecks'. -/
def inboundChecksCard : Claim7 := { stood := { row := inboundChecksRow, standIns := [], harness := (true, "c9a26234ad2ff92a9253b7a80446014e3579d330e2efabb65aa3faffa1c2ea84"), looks := false }, kinds := [], alts := [], laidByText := true, laidKinds := [.data, .pinned], laidTests := true, laidLooks := .later }
def InboundChecksCardSaid : Prop := Claim7.holds Tryd.pinned (.plain (OpenSpec.ofChange inboundChecksSpec)) inboundChecksCard

/-- THE TIED CARD OF 'brokerlaw15.InboundReleases'. -/
def inboundReleasesCard : Claim7 := { stood := { row := inboundReleasesRow, standIns := [], harness := (true, "c9a26234ad2ff92a9253b7a80446014e3579d330e2efabb65aa3faffa1c2ea84"), looks := false }, kinds := [], alts := [], laidByText := true, laidKinds := [.data, .pinned], laidTests := true, laidLooks := .later }
def InboundReleasesCardSaid : Prop := Claim7.holds Tryd.pinned (.plain (OpenSpec.ofChange inboundReleasesSpec)) inboundReleasesCard

/-- THE SECOND FORM's CARD OF 'brokerlaw15.InboundChecks'. -/
def inboundChecksUptoCard : Claim7 := { stood := { row := inboundChecksUptoRow, standIns := [], harness := (true, "c9a26234ad2ff92a9253b7a80446014e3579d330e2efabb65aa3faffa1c2ea84"), looks := false }, kinds := [], alts := [], laidByText := true, laidKinds := [.data, .pinned], laidTests := true, laidLooks := .later }
def InboundChecksUptoCardSaid : Prop := Claim7.holds Tryd.pinned (.plain (OpenSpec.upto inboundChecksSpec)) inboundChecksUptoCard

/-- THE SECOND FORM's CARD OF 'brokerlaw15.InboundReleases'. -/
def inboundReleasesUptoCard : Claim7 := { stood := { row := inboundReleasesUptoRow, standIns := [], harness := (true, "c9a26234ad2ff92a9253b7a80446014e3579d330e2efabb65aa3faffa1c2ea84"), looks := false }, kinds := [], alts := [], laidByText := true, laidKinds := [.data, .pinned], laidTests := true, laidLooks := .later }
def InboundReleasesUptoCardSaid : Prop := Claim7.holds Tryd.pinned (.plain (OpenSpec.upto inboundReleasesSpec)) inboundReleasesUptoCard
end Rows
end Go.Proofs.YtcfpheihkbkloaaDoor
