/-
  DERIVED. GIVEN WITH THE SEED: THE CARDS: each row of YthdnhkmigddbgaaDoorRows.lean that lists a variable, with what it lists TIED to the program's text (the seventh form; the later family's looks); each row that meets fmt, with fmt's text TOLD by the authors' own Lean function (tested against real Go, not proved from fmt's source: count such statements apart). THE CARD IS WHAT COUNTS. Prove the row's statement (the work); the ties are given (YthdnhkmigddbgaaDoorTie.lean); close each card by the builder's one call (the guide's Derived/Test/ToyasCard.lean, 'card_holds'). Laid BY PROGRAM, IN A SANDBOX (cutbox-door.mjs). By AI agents, Wed Nov 11 2026. No macro, syntax, notation, axiom, sorry.
-/
import Derived.Test.YthdnhkmigddbgaaDoorRows
import GoSem.ClaimSeven
namespace Go.Proofs.YthdnhkmigddbgaaDoor
namespace Rows

/-- THE TIED CARD OF 'brokerlaw49.ConnChecks'. -/
def connChecksCard : Claim7 := { stood := { row := connChecksRow, standIns := [], harness := (true, "a479284abb8cf28b393e3c4c5306ca1ad10a3b912e236f26c0f1f2160109c68e"), looks := false }, kinds := [], alts := [], laidByText := true, laidKinds := [.data, .pinned], laidTests := true, laidLooks := .later }
def ConnChecksCardSaid : Prop := Claim7.holds Tryd.pinned (.plain (OpenSpec.ofChange connChecksSpec)) connChecksCard

/-- THE TIED CARD OF 'brokerlaw49.ConnReceives'. -/
def connReceivesCard : Claim7 := { stood := { row := connReceivesRow, standIns := [], harness := (true, "a479284abb8cf28b393e3c4c5306ca1ad10a3b912e236f26c0f1f2160109c68e"), looks := false }, kinds := [], alts := [], laidByText := true, laidKinds := [.data, .pinned], laidTests := true, laidLooks := .later }
def ConnReceivesCardSaid : Prop := Claim7.holds Tryd.pinned (.plain (OpenSpec.ofChange connReceivesSpec)) connReceivesCard

/-- THE TIED CARD OF 'brokerlaw49.ConnExpires'. -/
def connExpiresCard : Claim7 := { stood := { row := connExpiresRow, standIns := [], harness := (true, "a479284abb8cf28b393e3c4c5306ca1ad10a3b912e236f26c0f1f2160109c68e"), looks := false }, kinds := [], alts := [], laidByText := true, laidKinds := [.data, .pinned], laidTests := true, laidLooks := .later }
def ConnExpiresCardSaid : Prop := Claim7.holds Tryd.pinned (.plain (OpenSpec.ofChange connExpiresSpec)) connExpiresCard

/-- THE TIED CARD OF 'brokerlaw49.ConnSequence'. -/
def connSequenceCard : Claim7 := { stood := { row := connSequenceRow, standIns := [], harness := (true, "a479284abb8cf28b393e3c4c5306ca1ad10a3b912e236f26c0f1f2160109c68e"), looks := false }, kinds := [], alts := [], laidByText := true, laidKinds := [.data, .pinned], laidTests := true, laidLooks := .later }
def ConnSequenceCardSaid : Prop := Claim7.holds Tryd.pinned (.plain (OpenSpec.ofChange connSequenceSpec)) connSequenceCard

/-- THE SECOND FORM's CARD OF 'brokerlaw49.ConnChecks'. -/
def connChecksUptoCard : Claim7 := { stood := { row := connChecksUptoRow, standIns := [], harness := (true, "a479284abb8cf28b393e3c4c5306ca1ad10a3b912e236f26c0f1f2160109c68e"), looks := false }, kinds := [], alts := [], laidByText := true, laidKinds := [.data, .pinned], laidTests := true, laidLooks := .later }
def ConnChecksUptoCardSaid : Prop := Claim7.holds Tryd.pinned (.plain (OpenSpec.upto connChecksSpec)) connChecksUptoCard

/-- THE SECOND FORM's CARD OF 'brokerlaw49.ConnReceives'. -/
def connReceivesUptoCard : Claim7 := { stood := { row := connReceivesUptoRow, standIns := [], harness := (true, "a479284abb8cf28b393e3c4c5306ca1ad10a3b912e236f26c0f1f2160109c68e"), looks := false }, kinds := [], alts := [], laidByText := true, laidKinds := [.data, .pinned], laidTests := true, laidLooks := .later }
def ConnReceivesUptoCardSaid : Prop := Claim7.holds Tryd.pinned (.plain (OpenSpec.upto connReceivesSpec)) connReceivesUptoCard

/-- THE SECOND FORM's CARD OF 'brokerlaw49.ConnExpires'. -/
def connExpiresUptoCard : Claim7 := { stood := { row := connExpiresUptoRow, standIns := [], harness := (true, "a479284abb8cf28b393e3c4c5306ca1ad10a3b912e236f26c0f1f2160109c68e"), looks := false }, kinds := [], alts := [], laidByText := true, laidKinds := [.data, .pinned], laidTests := true, laidLooks := .later }
def ConnExpiresUptoCardSaid : Prop := Claim7.holds Tryd.pinned (.plain (OpenSpec.upto connExpiresSpec)) connExpiresUptoCard

/-- THE SECOND FORM's CARD OF 'brokerlaw49.ConnSequence'. -/
def connSequenceUptoCard : Claim7 := { stood := { row := connSequenceUptoRow, standIns := [], harness := (true, "a479284abb8cf28b393e3c4c5306ca1ad10a3b912e236f26c0f1f2160109c68e"), looks := false }, kinds := [], alts := [], laidByText := true, laidKinds := [.data, .pinned], laidTests := true, laidLooks := .later }
def ConnSequenceUptoCardSaid : Prop := Claim7.holds Tryd.pinned (.plain (OpenSpec.upto connSequenceSpec)) connSequenceUptoCard
end Rows
end Go.Proofs.YthdnhkmigddbgaaDoor
