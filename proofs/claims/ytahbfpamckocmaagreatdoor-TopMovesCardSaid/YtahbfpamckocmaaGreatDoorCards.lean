/-
  DERIVED. GIVEN WITH THE SEED: THE CARDS: each row of YtahbfpamckocmaaGreatDoorRows.lean that lists a variable, with what it lists TIED to the program's text (the seventh form; the later family's looks); each row that meets fmt, with fmt's text TOLD by the authors' own Lean function (tested against real Go, not proved from fmt's source: count such statements apart). THE CARD IS WHAT COUNTS. Prove the row's statement (the work); the ties are given (YtahbfpamckocmaaGreatDoorTie.lean); close each card by the builder's one call (the guide's Derived/Test/ToyasCard.lean, 'card_holds'). Laid BY PROGRAM, IN A SANDBOX (cutbox-door.mjs). By AI agents, Wed Nov 11 2026. No macro, syntax, notation, axiom, sorry.
-/
import Derived.Test.YtahbfpamckocmaaGreatDoorRows
import GoSem.ClaimSeven
namespace Go.Proofs.YtahbfpamckocmaaGreatDoor
namespace Rows

/-- THE TIED CARD OF 'brokertop.TopMoves'. -/
def topMovesCard : Claim7 := { stood := { row := topMovesRow, standIns := [], harness := (true, "5a97a29dc5d745c3620c32cf39b18f01b9bb083e007fb5f1e96387aef6acea91"), looks := false }, kinds := [], alts := [], laidByText := true, laidKinds := [.data, .pinned], laidTests := true, laidLooks := .later }
def TopMovesCardSaid : Prop := Claim7.holds Tryz.pinned (.plain (OpenSpec.ofChange topMovesSpec)) topMovesCard

/-- THE SECOND FORM's CARD OF 'brokertop.TopMoves'. -/
def topMovesUptoCard : Claim7 := { stood := { row := topMovesUptoRow, standIns := [], harness := (true, "5a97a29dc5d745c3620c32cf39b18f01b9bb083e007fb5f1e96387aef6acea91"), looks := false }, kinds := [], alts := [], laidByText := true, laidKinds := [.data, .pinned], laidTests := true, laidLooks := .later }
def TopMovesUptoCardSaid : Prop := Claim7.holds Tryz.pinned (.plain (OpenSpec.upto topMovesSpec)) topMovesUptoCard
end Rows
end Go.Proofs.YtahbfpamckocmaaGreatDoor
