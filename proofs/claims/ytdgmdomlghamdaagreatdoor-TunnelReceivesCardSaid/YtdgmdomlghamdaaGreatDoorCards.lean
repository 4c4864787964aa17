/-
  DERIVED. GIVEN WITH THE SEED: THE CARDS: each row of YtdgmdomlghamdaaGreatDoorRows.lean that lists a variable, with what it lists TIED to the program's text (the seventh form; the later family's looks); each row that meets fmt, with fmt's text TOLD by the authors' own Lean function (tested against real Go, not proved from fmt's source: count such statements apart). THE CARD IS WHAT COUNTS. Prove the row's statement (the work); the ties are given (YtdgmdomlghamdaaGreatDoorTie.lean); close each card by the builder's one call (the guide's Derived/Test/ToyasCard.lean, 'card_holds'). Laid BY PROGRAM, IN A SANDBOX (cutbox-door.mjs). By AI agents, Wed Nov 11 2026. No macro, syntax, notation, axiom, sorry.
-/
import Derived.Test.YtdgmdomlghamdaaGreatDoorRows
import GoSem.ClaimSeven
namespace Go.Proofs.YtdgmdomlghamdaaGreatDoor
namespace Rows

/-- THE TIED CARD OF 'brokerlaw09.TunnelSends'. -/
def tunnelSendsCard : Claim7 := { stood := { row := tunnelSendsRow, standIns := [], harness := (true, "48dd594720c2f3e1cf4d9fec7aad32b230d604eaa08f564c7eae188d8cbc0299"), looks := true }, kinds := [], alts := [], laidByText := true, laidKinds := [.data, .pinned], laidTests := true, laidLooks := .later }
def TunnelSendsCardSaid : Prop := Claim7.holds Tryz.pinned (.plain (OpenSpec.ofChange tunnelSendsSpec)) tunnelSendsCard

/-- THE TIED CARD OF 'brokerlaw09.TunnelReceives'. -/
def tunnelReceivesCard : Claim7 := { stood := { row := tunnelReceivesRow, standIns := [], harness := (true, "48dd594720c2f3e1cf4d9fec7aad32b230d604eaa08f564c7eae188d8cbc0299"), looks := true }, kinds := [], alts := [], laidByText := true, laidKinds := [.data, .pinned], laidTests := true, laidLooks := .later }
def TunnelReceivesCardSaid : Prop := Claim7.holds Tryz.pinned (.plain (OpenSpec.ofChange tunnelReceivesSpec)) tunnelReceivesCard

/-- THE TIED CARD OF 'brokerlaw09.TunnelPrefix'. -/
def tunnelPrefixCard : Claim7 := { stood := { row := tunnelPrefixRow, standIns := [], harness := (true, "48dd594720c2f3e1cf4d9fec7aad32b230d604eaa08f564c7eae188d8cbc0299"), looks := true }, kinds := [], alts := [], laidByText := true, laidKinds := [.data, .pinned], laidTests := true, laidLooks := .later }
def TunnelPrefixCardSaid : Prop := Claim7.holds Tryz.pinned (.plain (OpenSpec.ofChange tunnelPrefixSpec)) tunnelPrefixCard

/-- THE TIED CARD OF 'brokerlaw09.TunnelDamaged'. -/
def tunnelDamagedCard : Claim7 := { stood := { row := tunnelDamagedRow, standIns := [], harness := (true, "48dd594720c2f3e1cf4d9fec7aad32b230d604eaa08f564c7eae188d8cbc0299"), looks := true }, kinds := [], alts := [], laidByText := true, laidKinds := [.data, .pinned], laidTests := true, laidLooks := .later }
def TunnelDamagedCardSaid : Prop := Claim7.holds Tryz.pinned (.plain (OpenSpec.ofChange tunnelDamagedSpec)) tunnelDamagedCard

/-- THE SECOND FORM's CARD OF 'brokerlaw09.TunnelSends'. -/
def tunnelSendsUptoCard : Claim7 := { stood := { row := tunnelSendsUptoRow, standIns := [], harness := (true, "48dd594720c2f3e1cf4d9fec7aad32b230d604eaa08f564c7eae188d8cbc0299"), looks := true }, kinds := [], alts := [], laidByText := true, laidKinds := [.data, .pinned], laidTests := true, laidLooks := .later }
def TunnelSendsUptoCardSaid : Prop := Claim7.holds Tryz.pinned (.plain (OpenSpec.upto tunnelSendsSpec)) tunnelSendsUptoCard

/-- THE SECOND FORM's CARD OF 'brokerlaw09.TunnelReceives'. -/
def tunnelReceivesUptoCard : Claim7 := { stood := { row := tunnelReceivesUptoRow, standIns := [], harness := (true, "48dd594720c2f3e1cf4d9fec7aad32b230d604eaa08f564c7eae188d8cbc0299"), looks := true }, kinds := [], alts := [], laidByText := true, laidKinds := [.data, .pinned], laidTests := true, laidLooks := .later }
def TunnelReceivesUptoCardSaid : Prop := Claim7.holds Tryz.pinned (.plain (OpenSpec.upto tunnelReceivesSpec)) tunnelReceivesUptoCard

/-- THE SECOND FORM's CARD OF 'brokerlaw09.TunnelPrefix'. -/
def tunnelPrefixUptoCard : Claim7 := { stood := { row := tunnelPrefixUptoRow, standIns := [], harness := (true, "48dd594720c2f3e1cf4d9fec7aad32b230d604eaa08f564c7eae188d8cbc0299"), looks := true }, kinds := [], alts := [], laidByText := true, laidKinds := [.data, .pinned], laidTests := true, laidLooks := .later }
def TunnelPrefixUptoCardSaid : Prop := Claim7.holds Tryz.pinned (.plain (OpenSpec.upto tunnelPrefixSpec)) tunnelPrefixUptoCard

/-- THE SECOND FORM's CARD OF 'brokerlaw09.TunnelDamaged'. -/
def tunnelDamagedUptoCard : Claim7 := { stood := { row := tunnelDamagedUptoRow, standIns := [], harness := (true, "48dd594720c2f3e1cf4d9fec7aad32b230d604eaa08f564c7eae188d8cbc0299"), looks := true }, kinds := [], alts := [], laidByText := true, laidKinds := [.data, .pinned], laidTests := true, laidLooks := .later }
def TunnelDamagedUptoCardSaid : Prop := Claim7.holds Tryz.pinned (.plain (OpenSpec.upto tunnelDamagedSpec)) tunnelDamagedUptoCard
end Rows
end Go.Proofs.YtdgmdomlghamdaaGreatDoor
