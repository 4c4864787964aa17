/-
  DERIVED. GIVEN WITH THE SEED: THE CARDS: each row of YthgmhhgmnegocaaGreatDoorRows.lean that lists a variable, with what it lists TIED to the program's text (the seventh form; the later family's looks); each row that meets fmt, with fmt's text TOLD by the authors' own Lean function (tested against real Go, not proved from fmt's source: count such statements apart). THE CARD IS WHAT COUNTS. Prove the row's statement (the work); the ties are given (YthgmhhgmnegocaaGreatDoorTie.lean); close each card by the builder's one call (the guide's Derived/Test/ToyasCard.lean, 'card_holds'). Laid BY PROGRAM, IN A SANDBOX (cutbox-door.mjs). By AI agents, Wed Nov 11 2026. No macro, syntax, notation, axiom, sorry.
-/
import Derived.Test.YthgmhhgmnegocaaGreatDoorRows
import GoSem.ClaimSeven
namespace Go.Proofs.YthgmhhgmnegocaaGreatDoor
namespace Rows

/-- THE TIED CARD OF 'brokerlaw07.WireEncodes'. -/
def wireEncodesCard : Claim7 := { stood := { row := wireEncodesRow, standIns := [], harness := (true, "1d6f914eb5dba1ab98e0605a7c2747dfd69c744bf876132021ccacf41cf649f7"), looks := true }, kinds := [], alts := [], laidByText := true, laidKinds := [.data, .pinned], laidTests := true, laidLooks := .later }
def WireEncodesCardSaid : Prop := Claim7.holds Tryz.pinned (.plain (OpenSpec.ofChange wireEncodesSpec)) wireEncodesCard

/-- THE TIED CARD OF 'brokerlaw07.WireDecodes'. -/
def wireDecodesCard : Claim7 := { stood := { row := wireDecodesRow, standIns := [], harness := (true, "1d6f914eb5dba1ab98e0605a7c2747dfd69c744bf876132021ccacf41cf649f7"), looks := true }, kinds := [], alts := [], laidByText := true, laidKinds := [.data, .pinned], laidTests := true, laidLooks := .later }
def WireDecodesCardSaid : Prop := Claim7.holds Tryz.pinned (.plain (OpenSpec.ofChange wireDecodesSpec)) wireDecodesCard

/-- THE TIED CARD OF 'brokerlaw07.WireAlls'. -/
def wireAllsCard : Claim7 := { stood := { row := wireAllsRow, standIns := [], harness := (true, "1d6f914eb5dba1ab98e0605a7c2747dfd69c744bf876132021ccacf41cf649f7"), looks := true }, kinds := [], alts := [], laidByText := true, laidKinds := [.data, .pinned], laidTests := true, laidLooks := .later }
def WireAllsCardSaid : Prop := Claim7.holds Tryz.pinned (.plain (OpenSpec.ofChange wireAllsSpec)) wireAllsCard

/-- THE TIED CARD OF 'brokerlaw07.WireReads'. -/
def wireReadsCard : Claim7 := { stood := { row := wireReadsRow, standIns := [], harness := (true, "1d6f914eb5dba1ab98e0605a7c2747dfd69c744bf876132021ccacf41cf649f7"), looks := true }, kinds := [], alts := [], laidByText := true, laidKinds := [.data, .pinned], laidTests := true, laidLooks := .later }
def WireReadsCardSaid : Prop := Claim7.holds Tryz.pinned (.plain (OpenSpec.ofChange wireReadsSpec)) wireReadsCard

/-- THE TIED CARD OF 'brokerlaw07.WireBack'. -/
def wireBackCard : Claim7 := { stood := { row := wireBackRow, standIns := [], harness := (true, "1d6f914eb5dba1ab98e0605a7c2747dfd69c744bf876132021ccacf41cf649f7"), looks := true }, kinds := [], alts := [], laidByText := true, laidKinds := [.data, .pinned], laidTests := true, laidLooks := .later }
def WireBackCardSaid : Prop := Claim7.holds Tryz.pinned (.plain (OpenSpec.ofChange wireBackSpec)) wireBackCard

/-- THE TIED CARD OF 'brokerlaw07.WireTorn'. -/
def wireTornCard : Claim7 := { stood := { row := wireTornRow, standIns := [], harness := (true, "1d6f914eb5dba1ab98e0605a7c2747dfd69c744bf876132021ccacf41cf649f7"), looks := true }, kinds := [], alts := [], laidByText := true, laidKinds := [.data, .pinned], laidTests := true, laidLooks := .later }
def WireTornCardSaid : Prop := Claim7.holds Tryz.pinned (.plain (OpenSpec.ofChange wireTornSpec)) wireTornCard

/-- THE SECOND FORM's CARD OF 'brokerlaw07.WireEncodes'. -/
def wireEncodesUptoCard : Claim7 := { stood := { row := wireEncodesUptoRow, standIns := [], harness := (true, "1d6f914eb5dba1ab98e0605a7c2747dfd69c744bf876132021ccacf41cf649f7"), looks := true }, kinds := [], alts := [], laidByText := true, laidKinds := [.data, .pinned], laidTests := true, laidLooks := .later }
def WireEncodesUptoCardSaid : Prop := Claim7.holds Tryz.pinned (.plain (OpenSpec.upto wireEncodesSpec)) wireEncodesUptoCard

/-- THE SECOND FORM's CARD OF 'brokerlaw07.WireDecodes'. -/
def wireDecodesUptoCard : Claim7 := { stood := { row := wireDecodesUptoRow, standIns := [], harness := (true, "1d6f914eb5dba1ab98e0605a7c2747dfd69c744bf876132021ccacf41cf649f7"), looks := true }, kinds := [], alts := [], laidByText := true, laidKinds := [.data, .pinned], laidTests := true, laidLooks := .later }
def WireDecodesUptoCardSaid : Prop := Claim7.holds Tryz.pinned (.plain (OpenSpec.upto wireDecodesSpec)) wireDecodesUptoCard

/-- THE SECOND FORM's CARD OF 'brokerlaw07.WireAlls'. -/
def wireAllsUptoCard : Claim7 := { stood := { row := wireAllsUptoRow, standIns := [], harness := (true, "1d6f914eb5dba1ab98e0605a7c2747dfd69c744bf876132021ccacf41cf649f7"), looks := true }, kinds := [], alts := [], laidByText := true, laidKinds := [.data, .pinned], laidTests := true, laidLooks := .later }
def WireAllsUptoCardSaid : Prop := Claim7.holds Tryz.pinned (.plain (OpenSpec.upto wireAllsSpec)) wireAllsUptoCard

/-- THE SECOND FORM's CARD OF 'brokerlaw07.WireReads'. -/
def wireReadsUptoCard : Claim7 := { stood := { row := wireReadsUptoRow, standIns := [], harness := (true, "1d6f914eb5dba1ab98e0605a7c2747dfd69c744bf876132021ccacf41cf649f7"), looks := true }, kinds := [], alts := [], laidByText := true, laidKinds := [.data, .pinned], laidTests := true, laidLooks := .later }
def WireReadsUptoCardSaid : Prop := Claim7.holds Tryz.pinned (.plain (OpenSpec.upto wireReadsSpec)) wireReadsUptoCard

/-- THE SECOND FORM's CARD OF 'brokerlaw07.WireBack'. -/
def wireBackUptoCard : Claim7 := { stood := { row := wireBackUptoRow, standIns := [], harness := (true, "1d6f914eb5dba1ab98e0605a7c2747dfd69c744bf876132021ccacf41cf649f7"), looks := true }, kinds := [], alts := [], laidByText := true, laidKinds := [.data, .pinned], laidTests := true, laidLooks := .later }
def WireBackUptoCardSaid : Prop := Claim7.holds Tryz.pinned (.plain (OpenSpec.upto wireBackSpec)) wireBackUptoCard

/-- THE SECOND FORM's CARD OF 'brokerlaw07.WireTorn'. -/
def wireTornUptoCard : Claim7 := { stood := { row := wireTornUptoRow, standIns := [], harness := (true, "1d6f914eb5dba1ab98e0605a7c2747dfd69c744bf876132021ccacf41cf649f7"), looks := true }, kinds := [], alts := [], laidByText := true, laidKinds := [.data, .pinned], laidTests := true, laidLooks := .later }
def WireTornUptoCardSaid : Prop := Claim7.holds Tryz.pinned (.plain (OpenSpec.upto wireTornSpec)) wireTornUptoCard
end Rows
end Go.Proofs.YthgmhhgmnegocaaGreatDoor
