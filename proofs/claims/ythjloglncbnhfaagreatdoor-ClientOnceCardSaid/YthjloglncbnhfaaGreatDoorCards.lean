/-
  DERIVED. GIVEN WITH THE SEED: THE CARDS: each row of YthjloglncbnhfaaGreatDoorRows.lean that lists a variable, with what it lists TIED to the program's text (the seventh form; the later family's looks); each row that meets fmt, with fmt's text TOLD by the authors' own Lean function (tested against real Go, not proved from fmt's source: count such statements apart). THE CARD IS WHAT COUNTS. Prove the row's statement (the work); the ties are given (YthjloglncbnhfaaGreatDoorTie.lean); close each card by the builder's one call (the guide's Derived/Test/ToyasCard.lean, 'card_holds'). Laid BY PROGRAM, IN A SANDBOX (cutbox-door.mjs). By AI agents, Wed Nov 11 2026. No macro, syntax, notation, axiom, sorry.
-/
import Derived.Test.YthjloglncbnhfaaGreatDoorRows
import GoSem.ClaimSeven
namespace Go.Proofs.YthjloglncbnhfaaGreatDoor
namespace Rows

/-- THE TIED CARD OF 'brokerlaw51.ClientNews'. -/
def clientNewsCard : Claim7 := { stood := { row := clientNewsRow, standIns := [], harness := (true, "72efe60854fe0d5fd37008153171b81e9deb1c649085373989572bb565259d82"), looks := false }, kinds := [], alts := [], laidByText := true, laidKinds := [.data, .pinned], laidTests := true, laidLooks := .later }
def ClientNewsCardSaid : Prop := Claim7.holds Tryz.pinned (.plain (OpenSpec.ofChange clientNewsSpec)) clientNewsCard

/-- THE TIED CARD OF 'brokerlaw51.ClientOnce'. -/
def clientOnceCard : Claim7 := { stood := { row := clientOnceRow, standIns := [], harness := (true, "72efe60854fe0d5fd37008153171b81e9deb1c649085373989572bb565259d82"), looks := false }, kinds := [], alts := [], laidByText := true, laidKinds := [.data, .pinned], laidTests := true, laidLooks := .later }
def ClientOnceCardSaid : Prop := Claim7.holds Tryz.pinned (.plain (OpenSpec.ofChange clientOnceSpec)) clientOnceCard

/-- THE TIED CARD OF 'brokerlaw51.ClientKeeps'. -/
def clientKeepsCard : Claim7 := { stood := { row := clientKeepsRow, standIns := [], harness := (true, "72efe60854fe0d5fd37008153171b81e9deb1c649085373989572bb565259d82"), looks := false }, kinds := [], alts := [], laidByText := true, laidKinds := [.data, .pinned], laidTests := true, laidLooks := .later }
def ClientKeepsCardSaid : Prop := Claim7.holds Tryz.pinned (.plain (OpenSpec.ofChange clientKeepsSpec)) clientKeepsCard

/-- THE TIED CARD OF 'brokerlaw51.ClientPlays'. -/
def clientPlaysCard : Claim7 := { stood := { row := clientPlaysRow, standIns := [], harness := (true, "72efe60854fe0d5fd37008153171b81e9deb1c649085373989572bb565259d82"), looks := false }, kinds := [], alts := [], laidByText := true, laidKinds := [.data, .pinned], laidTests := true, laidLooks := .later }
def ClientPlaysCardSaid : Prop := Claim7.holds Tryz.pinned (.plain (OpenSpec.ofChange clientPlaysSpec)) clientPlaysCard

/-- THE SECOND FORM's CARD OF 'brokerlaw51.ClientNews'. -/
def clientNewsUptoCard : Claim7 := { stood := { row := clientNewsUptoRow, standIns := [], harness := (true, "72efe60854fe0d5fd37008153171b81e9deb1c649085373989572bb565259d82"), looks := false }, kinds := [], alts := [], laidByText := true, laidKinds := [.data, .pinned], laidTests := true, laidLooks := .later }
def ClientNewsUptoCardSaid : Prop := Claim7.holds Tryz.pinned (.plain (OpenSpec.upto clientNewsSpec)) clientNewsUptoCard

/-- THE SECOND FORM's CARD OF 'brokerlaw51.ClientOnce'. -/
def clientOnceUptoCard : Claim7 := { stood := { row := clientOnceUptoRow, standIns := [], harness := (true, "72efe60854fe0d5fd37008153171b81e9deb1c649085373989572bb565259d82"), looks := false }, kinds := [], alts := [], laidByText := true, laidKinds := [.data, .pinned], laidTests := true, laidLooks := .later }
def ClientOnceUptoCardSaid : Prop := Claim7.holds Tryz.pinned (.plain (OpenSpec.upto clientOnceSpec)) clientOnceUptoCard

/-- THE SECOND FORM's CARD OF 'brokerlaw51.ClientKeeps'. -/
def clientKeepsUptoCard : Claim7 := { stood := { row := clientKeepsUptoRow, standIns := [], harness := (true, "72efe60854fe0d5fd37008153171b81e9deb1c649085373989572bb565259d82"), looks := false }, kinds := [], alts := [], laidByText := true, laidKinds := [.data, .pinned], laidTests := true, laidLooks := .later }
def ClientKeepsUptoCardSaid : Prop := Claim7.holds Tryz.pinned (.plain (OpenSpec.upto clientKeepsSpec)) clientKeepsUptoCard

/-- THE SECOND FORM's CARD OF 'brokerlaw51.ClientPlays'. -/
def clientPlaysUptoCard : Claim7 := { stood := { row := clientPlaysUptoRow, standIns := [], harness := (true, "72efe60854fe0d5fd37008153171b81e9deb1c649085373989572bb565259d82"), looks := false }, kinds := [], alts := [], laidByText := true, laidKinds := [.data, .pinned], laidTests := true, laidLooks := .later }
def ClientPlaysUptoCardSaid : Prop := Claim7.holds Tryz.pinned (.plain (OpenSpec.upto clientPlaysSpec)) clientPlaysUptoCard
end Rows
end Go.Proofs.YthjloglncbnhfaaGreatDoor
