/-
  DERIVED. GIVEN WITH THE SEED: THE CARDS: each row of YtkkbpepemldlaaaDoorRows.lean that lists a variable, with what it lists TIED to the program's text (the seventh form; the later family's looks); each row that meets fmt, with fmt's text TOLD by the authors' own Lean function (tested against real Go, not proved from fmt's source: count such statements apart). THE CARD IS WHAT COUNTS. Prove the row's statement (the work); the ties are given (YtkkbpepemldlaaaDoorTie.lean); close each card by the builder's one call (the guide's Derived/Test/ToyasCard.lean, 'card_holds'). Laid BY PROGRAM, IN A SANDBOX (cutbox-door.mjs). By AI agents, Wed Nov 11 2026. No macro, syntax, notation, axiom, sorry.
-/
import Derived.Test.YtkkbpepemldlaaaDoorRows
import GoSem.ClaimSeven
namespace Go.Proofs.YtkkbpepemldlaaaDoor
namespace Rows

/-- THE TIED CARD OF 'brokerlaw06.PacketChecks'. -/
def packetChecksCard : Claim7 := { stood := { row := packetChecksRow, standIns := [], harness := (true, "d540c1221f27791da48490f56e139529ff2aa986f9fec3860db28093165d92b2"), looks := false }, kinds := [], alts := [], laidByText := true, laidKinds := [.data, .pinned], laidTests := true, laidLooks := .later }
def PacketChecksCardSaid : Prop := Claim7.holds Tryd.pinned (.plain (OpenSpec.ofChange packetChecksSpec)) packetChecksCard

/-- THE TIED CARD OF 'brokerlaw06.PacketKinds'. -/
def packetKindsCard : Claim7 := { stood := { row := packetKindsRow, standIns := [], harness := (true, "d540c1221f27791da48490f56e139529ff2aa986f9fec3860db28093165d92b2"), looks := false }, kinds := [], alts := [], laidByText := true, laidKinds := [.data, .pinned], laidTests := true, laidLooks := .later }
def PacketKindsCardSaid : Prop := Claim7.holds Tryd.pinned (.plain (OpenSpec.ofChange packetKindsSpec)) packetKindsCard

/-- THE TIED CARD OF 'brokerlaw06.PacketSame'. -/
def packetSameCard : Claim7 := { stood := { row := packetSameRow, standIns := [], harness := (true, "d540c1221f27791da48490f56e139529ff2aa986f9fec3860db28093165d92b2"), looks := false }, kinds := [], alts := [], laidByText := true, laidKinds := [.data, .pinned], laidTests := true, laidLooks := .later }
def PacketSameCardSaid : Prop := Claim7.holds Tryd.pinned (.plain (OpenSpec.ofChange packetSameSpec)) packetSameCard

/-- THE TIED CARD OF 'brokerlaw06.PacketAnswers'. -/
def packetAnswersCard : Claim7 := { stood := { row := packetAnswersRow, standIns := [], harness := (true, "d540c1221f27791da48490f56e139529ff2aa986f9fec3860db28093165d92b2"), looks := false }, kinds := [], alts := [], laidByText := true, laidKinds := [.data, .pinned], laidTests := true, laidLooks := .later }
def PacketAnswersCardSaid : Prop := Claim7.holds Tryd.pinned (.plain (OpenSpec.ofChange packetAnswersSpec)) packetAnswersCard

/-- THE TIED CARD OF 'brokerlaw06.PacketFields'. -/
def packetFieldsCard : Claim7 := { stood := { row := packetFieldsRow, standIns := [], harness := (true, "d540c1221f27791da48490f56e139529ff2aa986f9fec3860db28093165d92b2"), looks := false }, kinds := [], alts := [], laidByText := true, laidKinds := [.data, .pinned], laidTests := true, laidLooks := .later }
def PacketFieldsCardSaid : Prop := Claim7.holds Tryd.pinned (.plain (OpenSpec.ofChange packetFieldsSpec)) packetFieldsCard

/-- THE TIED CARD OF 'brokerlaw06.PacketHandshake'. -/
def packetHandshakeCard : Claim7 := { stood := { row := packetHandshakeRow, standIns := [], harness := (true, "d540c1221f27791da48490f56e139529ff2aa986f9fec3860db28093165d92b2"), looks := false }, kinds := [], alts := [], laidByText := true, laidKinds := [.data, .pinned], laidTests := true, laidLooks := .later }
def PacketHandshakeCardSaid : Prop := Claim7.holds Tryd.pinned (.plain (OpenSpec.ofChange packetHandshakeSpec)) packetHandshakeCard

/-- THE SECOND FORM's CARD OF 'brokerlaw06.PacketChecks'. -/
def packetChecksUptoCard : Claim7 := { stood := { row := packetChecksUptoRow, standIns := [], harness := (true, "d540c1221f27791da48490f56e139529ff2aa986f9fec3860db28093165d92b2"), looks := false }, kinds := [], alts := [], laidByText := true, laidKinds := [.data, .pinned], laidTests := true, laidLooks := .later }
def PacketChecksUptoCardSaid : Prop := Claim7.holds Tryd.pinned (.plain (OpenSpec.upto packetChecksSpec)) packetChecksUptoCard

/-- THE SECOND FORM's CARD OF 'brokerlaw06.PacketKinds'. -/
def packetKindsUptoCard : Claim7 := { stood := { row := packetKindsUptoRow, standIns := [], harness := (true, "d540c1221f27791da48490f56e139529ff2aa986f9fec3860db28093165d92b2"), looks := false }, kinds := [], alts := [], laidByText := true, laidKinds := [.data, .pinned], laidTests := true, laidLooks := .later }
def PacketKindsUptoCardSaid : Prop := Claim7.holds Tryd.pinned (.plain (OpenSpec.upto packetKindsSpec)) packetKindsUptoCard

/-- THE SECOND FORM's CARD OF 'brokerlaw06.PacketSame'. -/
def packetSameUptoCard : Claim7 := { stood := { row := packetSameUptoRow, standIns := [], harness := (true, "d540c1221f27791da48490f56e139529ff2aa986f9fec3860db28093165d92b2"), looks := false }, kinds := [], alts := [], laidByText := true, laidKinds := [.data, .pinned], laidTests := true, laidLooks := .later }
def PacketSameUptoCardSaid : Prop := Claim7.holds Tryd.pinned (.plain (OpenSpec.upto packetSameSpec)) packetSameUptoCard

/-- THE SECOND FORM's CARD OF 'brokerlaw06.PacketAnswers'. -/
def packetAnswersUptoCard : Claim7 := { stood := { row := packetAnswersUptoRow, standIns := [], harness := (true, "d540c1221f27791da48490f56e139529ff2aa986f9fec3860db28093165d92b2"), looks := false }, kinds := [], alts := [], laidByText := true, laidKinds := [.data, .pinned], laidTests := true, laidLooks := .later }
def PacketAnswersUptoCardSaid : Prop := Claim7.holds Tryd.pinned (.plain (OpenSpec.upto packetAnswersSpec)) packetAnswersUptoCard

/-- THE SECOND FORM's CARD OF 'brokerlaw06.PacketFields'. -/
def packetFieldsUptoCard : Claim7 := { stood := { row := packetFieldsUptoRow, standIns := [], harness := (true, "d540c1221f27791da48490f56e139529ff2aa986f9fec3860db28093165d92b2"), looks := false }, kinds := [], alts := [], laidByText := true, laidKinds := [.data, .pinned], laidTests := true, laidLooks := .later }
def PacketFieldsUptoCardSaid : Prop := Claim7.holds Tryd.pinned (.plain (OpenSpec.upto packetFieldsSpec)) packetFieldsUptoCard

/-- THE SECOND FORM's CARD OF 'brokerlaw06.PacketHandshake'. -/
def packetHandshakeUptoCard : Claim7 := { stood := { row := packetHandshakeUptoRow, standIns := [], harness := (true, "d540c1221f27791da48490f56e139529ff2aa986f9fec3860db28093165d92b2"), looks := false }, kinds := [], alts := [], laidByText := true, laidKinds := [.data, .pinned], laidTests := true, laidLooks := .later }
def PacketHandshakeUptoCardSaid : Prop := Claim7.holds Tryd.pinned (.plain (OpenSpec.upto packetHandshakeSpec)) packetHandshakeUptoCard
end Rows
end Go.Proofs.YtkkbpepemldlaaaDoor
