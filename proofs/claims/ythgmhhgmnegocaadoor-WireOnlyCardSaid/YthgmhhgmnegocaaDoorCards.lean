/-
  DERIVED. GIVEN WITH THE SEED: THE CARDS: each row of YthgmhhgmnegocaaDoorRows.lean that lists a variable, with what it lists TIED to the program's text (the seventh form; the later family's looks); each row that meets fmt, with fmt's text TOLD by the authors' own Lean function (tested against real Go, not proved from fmt's source: count such statements apart). THE CARD IS WHAT COUNTS. Prove the row's statement (the work); the ties are given (YthgmhhgmnegocaaDoorTie.lean); close each card by the builder's one call (the guide's Derived/Test/ToyasCard.lean, 'card_holds'). Laid BY PROGRAM, IN A SANDBOX (cutbox-door.mjs). By AI agents, Wed Nov 11 2026. No macro, syntax, notation, axiom, sorry.
-/
import Derived.Test.YthgmhhgmnegocaaDoorRows
import GoSem.ClaimSeven
namespace Go.Proofs.YthgmhhgmnegocaaDoor
namespace Rows

/-- THE TIED CARD OF 'brokerlaw07.WireOnly'. -/
def wireOnlyCard : Claim7 := { stood := { row := wireOnlyRow, standIns := [], harness := (true, "f2b15d0d3f08311f02cc397f8a99d5a88b415037995fa062d9cda5b69bac46f1"), looks := true }, kinds := [], alts := [], laidByText := true, laidKinds := [.data, .pinned], laidTests := true, laidLooks := .later }
def WireOnlyCardSaid : Prop := Claim7.holds Tryd.pinned (.plain (OpenSpec.ofChange wireOnlySpec)) wireOnlyCard

/-- THE SECOND FORM's CARD OF 'brokerlaw07.WireOnly'. -/
def wireOnlyUptoCard : Claim7 := { stood := { row := wireOnlyUptoRow, standIns := [], harness := (true, "f2b15d0d3f08311f02cc397f8a99d5a88b415037995fa062d9cda5b69bac46f1"), looks := true }, kinds := [], alts := [], laidByText := true, laidKinds := [.data, .pinned], laidTests := true, laidLooks := .later }
def WireOnlyUptoCardSaid : Prop := Claim7.holds Tryd.pinned (.plain (OpenSpec.upto wireOnlySpec)) wireOnlyUptoCard
end Rows
end Go.Proofs.YthgmhhgmnegocaaDoor
