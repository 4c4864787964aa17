/-
  DERIVED. GIVEN WITH THE SEED: THE CARDS: each row of YtojlmojebnlmdaaGreatDoorRows.lean that lists a variable, with what it lists TIED to the program's text (the seventh form; the later family's looks); each row that meets fmt, with fmt's text TOLD by the authors' own Lean function (tested against real Go, not proved from fmt's source: count such statements apart). THE CARD IS WHAT COUNTS. Prove the row's statement (the work); the ties are given (YtojlmojebnlmdaaGreatDoorTie.lean); close each card by the builder's one call (the guide's Derived/Test/ToyasCard.lean, 'card_holds'). Laid BY PROGRAM, IN A SANDBOX (cutbox-door.mjs). By AI agents, Wed Nov 11 2026. No macro, syntax, notation, axiom, sorry.
-/
import Derived.Test.YtojlmojebnlmdaaGreatDoorRows
import GoSem.ClaimSeven
namespace Go.Proofs.YtojlmojebnlmdaaGreatDoor
namespace Rows

/-- THE TIED CARD OF 'brokerlaw19.SessionOffers'. -/
def sessionOffersCard : Claim7 := { stood := { row := sessionOffersRow, standIns := [], harness := (true, "d2782e0d09cd2c44d3be1bad550614534c19f7a950c8f360d95f343cbc4b8704"), looks := false }, kinds := [], alts := [], laidByText := true, laidKinds := [.data, .pinned], laidTests := true, laidLooks := .later }
def SessionOffersCardSaid : Prop := Claim7.holds Tryz.pinned (.plain (OpenSpec.ofChange sessionOffersSpec)) sessionOffersCard

/-- THE TIED CARD OF 'brokerlaw19.SessionHandles'. -/
def sessionHandlesCard : Claim7 := { stood := { row := sessionHandlesRow, standIns := [], harness := (true, "d2782e0d09cd2c44d3be1bad550614534c19f7a950c8f360d95f343cbc4b8704"), looks := false }, kinds := [], alts := [], laidByText := true, laidKinds := [.data, .pinned], laidTests := true, laidLooks := .later }
def SessionHandlesCardSaid : Prop := Claim7.holds Tryz.pinned (.plain (OpenSpec.ofChange sessionHandlesSpec)) sessionHandlesCard

/-- THE TIED CARD OF 'brokerlaw19.SessionExpires'. -/
def sessionExpiresCard : Claim7 := { stood := { row := sessionExpiresRow, standIns := [], harness := (true, "d2782e0d09cd2c44d3be1bad550614534c19f7a950c8f360d95f343cbc4b8704"), looks := false }, kinds := [], alts := [], laidByText := true, laidKinds := [.data, .pinned], laidTests := true, laidLooks := .later }
def SessionExpiresCardSaid : Prop := Claim7.holds Tryz.pinned (.plain (OpenSpec.ofChange sessionExpiresSpec)) sessionExpiresCard

/-- THE TIED CARD OF 'brokerlaw19.SessionSubs'. -/
def sessionSubsCard : Claim7 := { stood := { row := sessionSubsRow, standIns := [], harness := (true, "d2782e0d09cd2c44d3be1bad550614534c19f7a950c8f360d95f343cbc4b8704"), looks := false }, kinds := [], alts := [], laidByText := true, laidKinds := [.data, .pinned], laidTests := true, laidLooks := .later }
def SessionSubsCardSaid : Prop := Claim7.holds Tryz.pinned (.plain (OpenSpec.ofChange sessionSubsSpec)) sessionSubsCard

/-- THE TIED CARD OF 'brokerlaw19.SessionNew'. -/
def sessionNewCard : Claim7 := { stood := { row := sessionNewRow, standIns := [], harness := (true, "d2782e0d09cd2c44d3be1bad550614534c19f7a950c8f360d95f343cbc4b8704"), looks := false }, kinds := [], alts := [], laidByText := true, laidKinds := [.data, .pinned], laidTests := true, laidLooks := .later }
def SessionNewCardSaid : Prop := Claim7.holds Tryz.pinned (.plain (OpenSpec.ofChange sessionNewSpec)) sessionNewCard

/-- THE TIED CARD OF 'brokerlaw19.SessionChecks'. -/
def sessionChecksCard : Claim7 := { stood := { row := sessionChecksRow, standIns := [], harness := (true, "d2782e0d09cd2c44d3be1bad550614534c19f7a950c8f360d95f343cbc4b8704"), looks := false }, kinds := [], alts := [], laidByText := true, laidKinds := [.data, .pinned], laidTests := true, laidLooks := .later }
def SessionChecksCardSaid : Prop := Claim7.holds Tryz.pinned (.plain (OpenSpec.ofChange sessionChecksSpec)) sessionChecksCard

/-- THE TIED CARD OF 'brokerlaw19.SessionPulls'. -/
def sessionPullsCard : Claim7 := { stood := { row := sessionPullsRow, standIns := [], harness := (true, "d2782e0d09cd2c44d3be1bad550614534c19f7a950c8f360d95f343cbc4b8704"), looks := false }, kinds := [], alts := [], laidByText := true, laidKinds := [.data, .pinned], laidTests := true, laidLooks := .later }
def SessionPullsCardSaid : Prop := Claim7.holds Tryz.pinned (.plain (OpenSpec.ofChange sessionPullsSpec)) sessionPullsCard

/-- THE TIED CARD OF 'brokerlaw19.SessionResumes'. -/
def sessionResumesCard : Claim7 := { stood := { row := sessionResumesRow, standIns := [], harness := (true, "d2782e0d09cd2c44d3be1bad550614534c19f7a950c8f360d95f343cbc4b8704"), looks := false }, kinds := [], alts := [], laidByText := true, laidKinds := [.data, .pinned], laidTests := true, laidLooks := .later }
def SessionResumesCardSaid : Prop := Claim7.holds Tryz.pinned (.plain (OpenSpec.ofChange sessionResumesSpec)) sessionResumesCard

/-- THE TIED CARD OF 'brokerlaw19.SessionParts'. -/
def sessionPartsCard : Claim7 := { stood := { row := sessionPartsRow, standIns := [], harness := (true, "d2782e0d09cd2c44d3be1bad550614534c19f7a950c8f360d95f343cbc4b8704"), looks := false }, kinds := [], alts := [], laidByText := true, laidKinds := [.data, .pinned], laidTests := true, laidLooks := .later }
def SessionPartsCardSaid : Prop := Claim7.holds Tryz.pinned (.plain (OpenSpec.ofChange sessionPartsSpec)) sessionPartsCard

/-- THE SECOND FORM's CARD OF 'brokerlaw19.SessionOffers'. -/
def sessionOffersUptoCard : Claim7 := { stood := { row := sessionOffersUptoRow, standIns := [], harness := (true, "d2782e0d09cd2c44d3be1bad550614534c19f7a950c8f360d95f343cbc4b8704"), looks := false }, kinds := [], alts := [], laidByText := true, laidKinds := [.data, .pinned], laidTests := true, laidLooks := .later }
def SessionOffersUptoCardSaid : Prop := Claim7.holds Tryz.pinned (.plain (OpenSpec.upto sessionOffersSpec)) sessionOffersUptoCard

/-- THE SECOND FORM's CARD OF 'brokerlaw19.SessionHandles'. -/
def sessionHandlesUptoCard : Claim7 := { stood := { row := sessionHandlesUptoRow, standIns := [], harness := (true, "d2782e0d09cd2c44d3be1bad550614534c19f7a950c8f360d95f343cbc4b8704"), looks := false }, kinds := [], alts := [], laidByText := true, laidKinds := [.data, .pinned], laidTests := true, laidLooks := .later }
def SessionHandlesUptoCardSaid : Prop := Claim7.holds Tryz.pinned (.plain (OpenSpec.upto sessionHandlesSpec)) sessionHandlesUptoCard

/-- THE SECOND FORM's CARD OF 'brokerlaw19.SessionExpires'. -/
def sessionExpiresUptoCard : Claim7 := { stood := { row := sessionExpiresUptoRow, standIns := [], harness := (true, "d2782e0d09cd2c44d3be1bad550614534c19f7a950c8f360d95f343cbc4b8704"), looks := false }, kinds := [], alts := [], laidByText := true, laidKinds := [.data, .pinned], laidTests := true, laidLooks := .later }
def SessionExpiresUptoCardSaid : Prop := Claim7.holds Tryz.pinned (.plain (OpenSpec.upto sessionExpiresSpec)) sessionExpiresUptoCard

/-- THE SECOND FORM's CARD OF 'brokerlaw19.SessionSubs'. -/
def sessionSubsUptoCard : Claim7 := { stood := { row := sessionSubsUptoRow, standIns := [], harness := (true, "d2782e0d09cd2c44d3be1bad550614534c19f7a950c8f360d95f343cbc4b8704"), looks := false }, kinds := [], alts := [], laidByText := true, laidKinds := [.data, .pinned], laidTests := true, laidLooks := .later }
def SessionSubsUptoCardSaid : Prop := Claim7.holds Tryz.pinned (.plain (OpenSpec.upto sessionSubsSpec)) sessionSubsUptoCard

/-- THE SECOND FORM's CARD OF 'brokerlaw19.SessionNew'. -/
def sessionNewUptoCard : Claim7 := { stood := { row := sessionNewUptoRow, standIns := [], harness := (true, "d2782e0d09cd2c44d3be1bad550614534c19f7a950c8f360d95f343cbc4b8704"), looks := false }, kinds := [], alts := [], laidByText := true, laidKinds := [.data, .pinned], laidTests := true, laidLooks := .later }
def SessionNewUptoCardSaid : Prop := Claim7.holds Tryz.pinned (.plain (OpenSpec.upto sessionNewSpec)) sessionNewUptoCard

/-- THE SECOND FORM's CARD OF 'brokerlaw19.SessionChecks'. -/
def sessionChecksUptoCard : Claim7 := { stood := { row := sessionChecksUptoRow, standIns := [], harness := (true, "d2782e0d09cd2c44d3be1bad550614534c19f7a950c8f360d95f343cbc4b8704"), looks := false }, kinds := [], alts := [], laidByText := true, laidKinds := [.data, .pinned], laidTests := true, laidLooks := .later }
def SessionChecksUptoCardSaid : Prop := Claim7.holds Tryz.pinned (.plain (OpenSpec.upto sessionChecksSpec)) sessionChecksUptoCard

/-- THE SECOND FORM's CARD OF 'brokerlaw19.SessionPulls'. -/
def sessionPullsUptoCard : Claim7 := { stood := { row := sessionPullsUptoRow, standIns := [], harness := (true, "d2782e0d09cd2c44d3be1bad550614534c19f7a950c8f360d95f343cbc4b8704"), looks := false }, kinds := [], alts := [], laidByText := true, laidKinds := [.data, .pinned], laidTests := true, laidLooks := .later }
def SessionPullsUptoCardSaid : Prop := Claim7.holds Tryz.pinned (.plain (OpenSpec.upto sessionPullsSpec)) sessionPullsUptoCard

/-- THE SECOND FORM's CARD OF 'brokerlaw19.SessionResumes'. -/
def sessionResumesUptoCard : Claim7 := { stood := { row := sessionResumesUptoRow, standIns := [], harness := (true, "d2782e0d09cd2c44d3be1bad550614534c19f7a950c8f360d95f343cbc4b8704"), looks := false }, kinds := [], alts := [], laidByText := true, laidKinds := [.data, .pinned], laidTests := true, laidLooks := .later }
def SessionResumesUptoCardSaid : Prop := Claim7.holds Tryz.pinned (.plain (OpenSpec.upto sessionResumesSpec)) sessionResumesUptoCard

/-- THE SECOND FORM's CARD OF 'brokerlaw19.SessionParts'. -/
def sessionPartsUptoCard : Claim7 := { stood := { row := sessionPartsUptoRow, standIns := [], harness := (true, "d2782e0d09cd2c44d3be1bad550614534c19f7a950c8f360d95f343cbc4b8704"), looks := false }, kinds := [], alts := [], laidByText := true, laidKinds := [.data, .pinned], laidTests := true, laidLooks := .later }
def SessionPartsUptoCardSaid : Prop := Claim7.holds Tryz.pinned (.plain (OpenSpec.upto sessionPartsSpec)) sessionPartsUptoCard
end Rows
end Go.Proofs.YtojlmojebnlmdaaGreatDoor
