/-
  DERIVED. GIVEN WITH THE SEED: THE CARDS: each row of YtdgmdomlghamdaaDoorRows.lean that lists a variable, with what it lists TIED to the program's text (the seventh form; the later family's looks); each row that meets fmt, with fmt's text TOLD by the authors' own Lean function (tested against real Go, not proved from fmt's source: count such statements apart). THE CARD IS WHAT COUNTS. Prove the row's statement (the work); the ties are given (YtdgmdomlghamdaaDoorTie.lean); close each card by the builder's one call (the guide's Derived/Test/ToyasCard.lean, 'card_holds'). Laid BY PROGRAM, IN A SANDBOX (cutbox-door.mjs). By AI agents, Wed Nov 11 2026. No macro, syntax, notation, axiom, sorry.
-/
import Derived.Test.YtdgmdomlghamdaaDoorRows
import GoSem.ClaimSeven
namespace Go.Proofs.YtdgmdomlghamdaaDoor
namespace Rows

/-- THE TIED CARD OF 'brokerlaw09.TunnelNews'. -/
def tunnelNewsCard : Claim7 := { stood := { row := tunnelNewsRow, standIns := [], harness := (true, "0fea1beb87d5a96baff47f48b8114f6b2e37992e5ea2d6ecc77996a1d91d3d40"), looks := true }, kinds := [], alts := [], laidByText := true, laidKinds := [.data, .pinned], laidTests := true, laidLooks := .later }
def TunnelNewsCardSaid : Prop := Claim7.holds Tryd.pinned (.plain (OpenSpec.ofChange tunnelNewsSpec)) tunnelNewsCard

/-- THE TIED CARD OF 'brokerlaw09.TunnelPeeks'. -/
def tunnelPeeksCard : Claim7 := { stood := { row := tunnelPeeksRow, standIns := [], harness := (true, "0fea1beb87d5a96baff47f48b8114f6b2e37992e5ea2d6ecc77996a1d91d3d40"), looks := true }, kinds := [], alts := [], laidByText := true, laidKinds := [.data, .pinned], laidTests := true, laidLooks := .later }
def TunnelPeeksCardSaid : Prop := Claim7.holds Tryd.pinned (.plain (OpenSpec.ofChange tunnelPeeksSpec)) tunnelPeeksCard

/-- THE SECOND FORM's CARD OF 'brokerlaw09.TunnelNews'. -/
def tunnelNewsUptoCard : Claim7 := { stood := { row := tunnelNewsUptoRow, standIns := [], harness := (true, "0fea1beb87d5a96baff47f48b8114f6b2e37992e5ea2d6ecc77996a1d91d3d40"), looks := true }, kinds := [], alts := [], laidByText := true, laidKinds := [.data, .pinned], laidTests := true, laidLooks := .later }
def TunnelNewsUptoCardSaid : Prop := Claim7.holds Tryd.pinned (.plain (OpenSpec.upto tunnelNewsSpec)) tunnelNewsUptoCard

/-- THE SECOND FORM's CARD OF 'brokerlaw09.TunnelPeeks'. -/
def tunnelPeeksUptoCard : Claim7 := { stood := { row := tunnelPeeksUptoRow, standIns := [], harness := (true, "0fea1beb87d5a96baff47f48b8114f6b2e37992e5ea2d6ecc77996a1d91d3d40"), looks := true }, kinds := [], alts := [], laidByText := true, laidKinds := [.data, .pinned], laidTests := true, laidLooks := .later }
def TunnelPeeksUptoCardSaid : Prop := Claim7.holds Tryd.pinned (.plain (OpenSpec.upto tunnelPeeksSpec)) tunnelPeeksUptoCard
end Rows
end Go.Proofs.YtdgmdomlghamdaaDoor
