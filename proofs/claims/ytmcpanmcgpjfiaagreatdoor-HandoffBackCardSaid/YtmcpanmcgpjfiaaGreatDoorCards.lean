/-
  DERIVED. GIVEN WITH THE SEED: THE CARDS: each row of YtmcpanmcgpjfiaaGreatDoorRows.lean that lists a variable, with what it lists TIED to the program's text (the seventh form; the later family's looks); each row that meets fmt, with fmt's text TOLD by the authors' own Lean function (tested against real Go, not proved from fmt's source: count such statements apart). THE CARD IS WHAT COUNTS. Prove the row's statement (the work); the ties are given (YtmcpanmcgpjfiaaGreatDoorTie.lean); close each card by the builder's one call (the guide's Derived/Test/ToyasCard.lean, 'card_holds'). Laid BY PROGRAM, IN A SANDBOX (cutbox-door.mjs). By AI agents, Wed Nov 11 2026. No macro, syntax, notation, axiom, sorry.
-/
import Derived.Test.YtmcpanmcgpjfiaaGreatDoorRows
import GoSem.ClaimSeven
namespace Go.Proofs.YtmcpanmcgpjfiaaGreatDoor
namespace Rows

/-- THE TIED CARD OF 'brokerlaw43.HandoffSeats'. -/
def handoffSeatsCard : Claim7 := { stood := { row := handoffSeatsRow, standIns := [], harness := (true, "53b5971803560acda209ee7b5635e3c5d9e578cbde3e53922453f7cb1c50d88c"), looks := false }, kinds := [], alts := [], laidByText := true, laidKinds := [.data, .pinned], laidTests := true, laidLooks := .later }
def HandoffSeatsCardSaid : Prop := Claim7.holds Tryz.pinned (.plain (OpenSpec.ofChange handoffSeatsSpec)) handoffSeatsCard

/-- THE TIED CARD OF 'brokerlaw43.HandoffExports'. -/
def handoffExportsCard : Claim7 := { stood := { row := handoffExportsRow, standIns := [], harness := (true, "53b5971803560acda209ee7b5635e3c5d9e578cbde3e53922453f7cb1c50d88c"), looks := false }, kinds := [], alts := [], laidByText := true, laidKinds := [.data, .pinned], laidTests := true, laidLooks := .later }
def HandoffExportsCardSaid : Prop := Claim7.holds Tryz.pinned (.plain (OpenSpec.ofChange handoffExportsSpec)) handoffExportsCard

/-- THE TIED CARD OF 'brokerlaw43.HandoffImports'. -/
def handoffImportsCard : Claim7 := { stood := { row := handoffImportsRow, standIns := [], harness := (true, "53b5971803560acda209ee7b5635e3c5d9e578cbde3e53922453f7cb1c50d88c"), looks := false }, kinds := [], alts := [], laidByText := true, laidKinds := [.data, .pinned], laidTests := true, laidLooks := .later }
def HandoffImportsCardSaid : Prop := Claim7.holds Tryz.pinned (.plain (OpenSpec.ofChange handoffImportsSpec)) handoffImportsCard

/-- THE TIED CARD OF 'brokerlaw43.HandoffBack'. -/
def handoffBackCard : Claim7 := { stood := { row := handoffBackRow, standIns := [], harness := (true, "53b5971803560acda209ee7b5635e3c5d9e578cbde3e53922453f7cb1c50d88c"), looks := false }, kinds := [], alts := [], laidByText := true, laidKinds := [.data, .pinned], laidTests := true, laidLooks := .later }
def HandoffBackCardSaid : Prop := Claim7.holds Tryz.pinned (.plain (OpenSpec.ofChange handoffBackSpec)) handoffBackCard

/-- THE TIED CARD OF 'brokerlaw43.HandoffCanonical'. -/
def handoffCanonicalCard : Claim7 := { stood := { row := handoffCanonicalRow, standIns := [], harness := (true, "53b5971803560acda209ee7b5635e3c5d9e578cbde3e53922453f7cb1c50d88c"), looks := false }, kinds := [], alts := [], laidByText := true, laidKinds := [.data, .pinned], laidTests := true, laidLooks := .later }
def HandoffCanonicalCardSaid : Prop := Claim7.holds Tryz.pinned (.plain (OpenSpec.ofChange handoffCanonicalSpec)) handoffCanonicalCard

/-- THE TIED CARD OF 'brokerlaw43.HandoffClaims'. -/
def handoffClaimsCard : Claim7 := { stood := { row := handoffClaimsRow, standIns := [], harness := (true, "53b5971803560acda209ee7b5635e3c5d9e578cbde3e53922453f7cb1c50d88c"), looks := false }, kinds := [], alts := [], laidByText := true, laidKinds := [.data, .pinned], laidTests := true, laidLooks := .later }
def HandoffClaimsCardSaid : Prop := Claim7.holds Tryz.pinned (.plain (OpenSpec.ofChange handoffClaimsSpec)) handoffClaimsCard

/-- THE TIED CARD OF 'brokerlaw43.HandoffMerges'. -/
def handoffMergesCard : Claim7 := { stood := { row := handoffMergesRow, standIns := [], harness := (true, "53b5971803560acda209ee7b5635e3c5d9e578cbde3e53922453f7cb1c50d88c"), looks := false }, kinds := [], alts := [], laidByText := true, laidKinds := [.data, .pinned], laidTests := true, laidLooks := .later }
def HandoffMergesCardSaid : Prop := Claim7.holds Tryz.pinned (.plain (OpenSpec.ofChange handoffMergesSpec)) handoffMergesCard

/-- THE TIED CARD OF 'brokerlaw43.HandoffKeeps'. -/
def handoffKeepsCard : Claim7 := { stood := { row := handoffKeepsRow, standIns := [], harness := (true, "53b5971803560acda209ee7b5635e3c5d9e578cbde3e53922453f7cb1c50d88c"), looks := false }, kinds := [], alts := [], laidByText := true, laidKinds := [.data, .pinned], laidTests := true, laidLooks := .later }
def HandoffKeepsCardSaid : Prop := Claim7.holds Tryz.pinned (.plain (OpenSpec.ofChange handoffKeepsSpec)) handoffKeepsCard

/-- THE TIED CARD OF 'brokerlaw43.HandoffMerge'. -/
def handoffMergeCard : Claim7 := { stood := { row := handoffMergeRow, standIns := [], harness := (true, "53b5971803560acda209ee7b5635e3c5d9e578cbde3e53922453f7cb1c50d88c"), looks := false }, kinds := [], alts := [], laidByText := true, laidKinds := [.data, .pinned], laidTests := true, laidLooks := .later }
def HandoffMergeCardSaid : Prop := Claim7.holds Tryz.pinned (.plain (OpenSpec.ofChange handoffMergeSpec)) handoffMergeCard

/-- THE SECOND FORM's CARD OF 'brokerlaw43.HandoffSeats'. -/
def handoffSeatsUptoCard : Claim7 := { stood := { row := handoffSeatsUptoRow, standIns := [], harness := (true, "53b5971803560acda209ee7b5635e3c5d9e578cbde3e53922453f7cb1c50d88c"), looks := false }, kinds := [], alts := [], laidByText := true, laidKinds := [.data, .pinned], laidTests := true, laidLooks := .later }
def HandoffSeatsUptoCardSaid : Prop := Claim7.holds Tryz.pinned (.plain (OpenSpec.upto handoffSeatsSpec)) handoffSeatsUptoCard

/-- THE SECOND FORM's CARD OF 'brokerlaw43.HandoffExports'. -/
def handoffExportsUptoCard : Claim7 := { stood := { row := handoffExportsUptoRow, standIns := [], harness := (true, "53b5971803560acda209ee7b5635e3c5d9e578cbde3e53922453f7cb1c50d88c"), looks := false }, kinds := [], alts := [], laidByText := true, laidKinds := [.data, .pinned], laidTests := true, laidLooks := .later }
def HandoffExportsUptoCardSaid : Prop := Claim7.holds Tryz.pinned (.plain (OpenSpec.upto handoffExportsSpec)) handoffExportsUptoCard

/-- THE SECOND FORM's CARD OF 'brokerlaw43.HandoffImports'. -/
def handoffImportsUptoCard : Claim7 := { stood := { row := handoffImportsUptoRow, standIns := [], harness := (true, "53b5971803560acda209ee7b5635e3c5d9e578cbde3e53922453f7cb1c50d88c"), looks := false }, kinds := [], alts := [], laidByText := true, laidKinds := [.data, .pinned], laidTests := true, laidLooks := .later }
def HandoffImportsUptoCardSaid : Prop := Claim7.holds Tryz.pinned (.plain (OpenSpec.upto handoffImportsSpec)) handoffImportsUptoCard

/-- THE SECOND FORM's CARD OF 'brokerlaw43.HandoffBack'. -/
def handoffBackUptoCard : Claim7 := { stood := { row := handoffBackUptoRow, standIns := [], harness := (true, "53b5971803560acda209ee7b5635e3c5d9e578cbde3e53922453f7cb1c50d88c"), looks := false }, kinds := [], alts := [], laidByText := true, laidKinds := [.data, .pinned], laidTests := true, laidLooks := .later }
def HandoffBackUptoCardSaid : Prop := Claim7.holds Tryz.pinned (.plain (OpenSpec.upto handoffBackSpec)) handoffBackUptoCard

/-- THE SECOND FORM's CARD OF 'brokerlaw43.HandoffCanonical'. -/
def handoffCanonicalUptoCard : Claim7 := { stood := { row := handoffCanonicalUptoRow, standIns := [], harness := (true, "53b5971803560acda209ee7b5635e3c5d9e578cbde3e53922453f7cb1c50d88c"), looks := false }, kinds := [], alts := [], laidByText := true, laidKinds := [.data, .pinned], laidTests := true, laidLooks := .later }
def HandoffCanonicalUptoCardSaid : Prop := Claim7.holds Tryz.pinned (.plain (OpenSpec.upto handoffCanonicalSpec)) handoffCanonicalUptoCard

/-- THE SECOND FORM's CARD OF 'brokerlaw43.HandoffClaims'. -/
def handoffClaimsUptoCard : Claim7 := { stood := { row := handoffClaimsUptoRow, standIns := [], harness := (true, "53b5971803560acda209ee7b5635e3c5d9e578cbde3e53922453f7cb1c50d88c"), looks := false }, kinds := [], alts := [], laidByText := true, laidKinds := [.data, .pinned], laidTests := true, laidLooks := .later }
def HandoffClaimsUptoCardSaid : Prop := Claim7.holds Tryz.pinned (.plain (OpenSpec.upto handoffClaimsSpec)) handoffClaimsUptoCard

/-- THE SECOND FORM's CARD OF 'brokerlaw43.HandoffMerges'. -/
def handoffMergesUptoCard : Claim7 := { stood := { row := handoffMergesUptoRow, standIns := [], harness := (true, "53b5971803560acda209ee7b5635e3c5d9e578cbde3e53922453f7cb1c50d88c"), looks := false }, kinds := [], alts := [], laidByText := true, laidKinds := [.data, .pinned], laidTests := true, laidLooks := .later }
def HandoffMergesUptoCardSaid : Prop := Claim7.holds Tryz.pinned (.plain (OpenSpec.upto handoffMergesSpec)) handoffMergesUptoCard

/-- THE SECOND FORM's CARD OF 'brokerlaw43.HandoffKeeps'. -/
def handoffKeepsUptoCard : Claim7 := { stood := { row := handoffKeepsUptoRow, standIns := [], harness := (true, "53b5971803560acda209ee7b5635e3c5d9e578cbde3e53922453f7cb1c50d88c"), looks := false }, kinds := [], alts := [], laidByText := true, laidKinds := [.data, .pinned], laidTests := true, laidLooks := .later }
def HandoffKeepsUptoCardSaid : Prop := Claim7.holds Tryz.pinned (.plain (OpenSpec.upto handoffKeepsSpec)) handoffKeepsUptoCard

/-- THE SECOND FORM's CARD OF 'brokerlaw43.HandoffMerge'. -/
def handoffMergeUptoCard : Claim7 := { stood := { row := handoffMergeUptoRow, standIns := [], harness := (true, "53b5971803560acda209ee7b5635e3c5d9e578cbde3e53922453f7cb1c50d88c"), looks := false }, kinds := [], alts := [], laidByText := true, laidKinds := [.data, .pinned], laidTests := true, laidLooks := .later }
def HandoffMergeUptoCardSaid : Prop := Claim7.holds Tryz.pinned (.plain (OpenSpec.upto handoffMergeSpec)) handoffMergeUptoCard
end Rows
end Go.Proofs.YtmcpanmcgpjfiaaGreatDoor
