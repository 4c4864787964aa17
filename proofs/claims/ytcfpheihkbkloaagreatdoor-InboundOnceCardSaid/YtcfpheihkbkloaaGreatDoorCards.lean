/-
  DERIVED. GIVEN WITH THE SEED: THE CARDS: each row of YtcfpheihkbkloaaGreatDoorRows.lean that lists a variable, with what it lists TIED to the program's text (the seventh form; the later family's looks); each row that meets fmt, with fmt's text TOLD by the authors' own Lean function (tested against real Go, not proved from fmt's source: count such statements apart). THE CARD IS WHAT COUNTS. Prove the row's statement (the work); the ties are given (YtcfpheihkbkloaaGreatDoorTie.lean); close each card by the builder's one call (the guide's Derived/Test/ToyasCard.lean, 'card_holds'). Laid BY PROGRAM, IN A SANDBOX (cutbox-door.mjs). By AI agents, Wed Nov 11 2026. No macro, syntax, notation, axiom, sorry.
-/
import Derived.Test.YtcfpheihkbkloaaGreatDoorRows
import GoSem.ClaimSeven
namespace Go.Proofs.YtcfpheihkbkloaaGreatDoor
namespace Rows

/-- THE TIED CARD OF 'brokerlaw15.InboundAccepts'. -/
def inboundAcceptsCard : Claim7 := { stood := { row := inboundAcceptsRow, standIns := [], harness := (true, "ee17c0c5fffe5a61befc89bb608d8c65d59e792fc10760426e626b39a3d9425e"), looks := false }, kinds := [], alts := [], laidByText := true, laidKinds := [.data, .pinned], laidTests := true, laidLooks := .later }
def InboundAcceptsCardSaid : Prop := Claim7.holds Tryz.pinned (.plain (OpenSpec.ofChange inboundAcceptsSpec)) inboundAcceptsCard

/-- THE TIED CARD OF 'brokerlaw15.InboundRuns'. -/
def inboundRunsCard : Claim7 := { stood := { row := inboundRunsRow, standIns := [], harness := (true, "ee17c0c5fffe5a61befc89bb608d8c65d59e792fc10760426e626b39a3d9425e"), looks := false }, kinds := [], alts := [], laidByText := true, laidKinds := [.data, .pinned], laidTests := true, laidLooks := .later }
def InboundRunsCardSaid : Prop := Claim7.holds Tryz.pinned (.plain (OpenSpec.ofChange inboundRunsSpec)) inboundRunsCard

/-- THE TIED CARD OF 'brokerlaw15.InboundOnce'. -/
def inboundOnceCard : Claim7 := { stood := { row := inboundOnceRow, standIns := [], harness := (true, "ee17c0c5fffe5a61befc89bb608d8c65d59e792fc10760426e626b39a3d9425e"), looks := false }, kinds := [], alts := [], laidByText := true, laidKinds := [.data, .pinned], laidTests := true, laidLooks := .later }
def InboundOnceCardSaid : Prop := Claim7.holds Tryz.pinned (.plain (OpenSpec.ofChange inboundOnceSpec)) inboundOnceCard

/-- THE TIED CARD OF 'brokerlaw15.InboundFull'. -/
def inboundFullCard : Claim7 := { stood := { row := inboundFullRow, standIns := [], harness := (true, "ee17c0c5fffe5a61befc89bb608d8c65d59e792fc10760426e626b39a3d9425e"), looks := false }, kinds := [], alts := [], laidByText := true, laidKinds := [.data, .pinned], laidTests := true, laidLooks := .later }
def InboundFullCardSaid : Prop := Claim7.holds Tryz.pinned (.plain (OpenSpec.ofChange inboundFullSpec)) inboundFullCard

/-- THE SECOND FORM's CARD OF 'brokerlaw15.InboundAccepts'. -/
def inboundAcceptsUptoCard : Claim7 := { stood := { row := inboundAcceptsUptoRow, standIns := [], harness := (true, "ee17c0c5fffe5a61befc89bb608d8c65d59e792fc10760426e626b39a3d9425e"), looks := false }, kinds := [], alts := [], laidByText := true, laidKinds := [.data, .pinned], laidTests := true, laidLooks := .later }
def InboundAcceptsUptoCardSaid : Prop := Claim7.holds Tryz.pinned (.plain (OpenSpec.upto inboundAcceptsSpec)) inboundAcceptsUptoCard

/-- THE SECOND FORM's CARD OF 'brokerlaw15.InboundRuns'. -/
def inboundRunsUptoCard : Claim7 := { stood := { row := inboundRunsUptoRow, standIns := [], harness := (true, "ee17c0c5fffe5a61befc89bb608d8c65d59e792fc10760426e626b39a3d9425e"), looks := false }, kinds := [], alts := [], laidByText := true, laidKinds := [.data, .pinned], laidTests := true, laidLooks := .later }
def InboundRunsUptoCardSaid : Prop := Claim7.holds Tryz.pinned (.plain (OpenSpec.upto inboundRunsSpec)) inboundRunsUptoCard

/-- THE SECOND FORM's CARD OF 'brokerlaw15.InboundOnce'. -/
def inboundOnceUptoCard : Claim7 := { stood := { row := inboundOnceUptoRow, standIns := [], harness := (true, "ee17c0c5fffe5a61befc89bb608d8c65d59e792fc10760426e626b39a3d9425e"), looks := false }, kinds := [], alts := [], laidByText := true, laidKinds := [.data, .pinned], laidTests := true, laidLooks := .later }
def InboundOnceUptoCardSaid : Prop := Claim7.holds Tryz.pinned (.plain (OpenSpec.upto inboundOnceSpec)) inboundOnceUptoCard

/-- THE SECOND FORM's CARD OF 'brokerlaw15.InboundFull'. -/
def inboundFullUptoCard : Claim7 := { stood := { row := inboundFullUptoRow, standIns := [], harness := (true, "ee17c0c5fffe5a61befc89bb608d8c65d59e792fc10760426e626b39a3d9425e"), looks := false }, kinds := [], alts := [], laidByText := true, laidKinds := [.data, .pinned], laidTests := true, laidLooks := .later }
def InboundFullUptoCardSaid : Prop := Claim7.holds Tryz.pinned (.plain (OpenSpec.upto inboundFullSpec)) inboundFullUptoCard
end Rows
end Go.Proofs.YtcfpheihkbkloaaGreatDoor
