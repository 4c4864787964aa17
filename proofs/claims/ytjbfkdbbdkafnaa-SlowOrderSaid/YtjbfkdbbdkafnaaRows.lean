/-
  No cell of these rows narrows 'for every input' (looked for: loops, veiled, ifaces, maps, wideKeys, modest, calm, conditions, laid).
  DERIVED. THE GIVEN ROWS OF THIS SEAT. 6 by the template 'for every input the law returns true; each argument reads behind the call as it read before'; 0 by the template 'total and deterministic' (their statements: YtjbfkdbbdkafnaaTotals.lean).
  GIVEN WITH THE SEED: the statements are not yours to turn. If you find one false, say at which input.
  Laid BY PROGRAM, IN A SANDBOX (cutbox-rows.mjs): the forced cells as the released guide's own fill.sh prints them over the translation 1c0b3cd1e3aee9de… (all of the seat's roots in one cut). By AI agents, Wed Nov 11 2026. No macro, syntax, notation, axiom, sorry.
-/
import Derived.Test.YtjbfkdbbdkafnaaChecked
import GoSem.Claim
import GoSem.ClaimJoined
import GoSem.ClaimMapViews
import Derived.JoinedTies
import Derived.KernelRfl
namespace Go.Proofs.Ytjbfkdbbdkafnaa
/- THE CELL 'sum', in the pinned program and in every row, IS THE sha256 OF THE DUMP (.gsa) THAT YtjbfkdbbdkafnaaProg.lean LOADS. Nothing in Lean hashes anything: it is a label: what it is worth is what the hold of that sum in a sandbox is worth. -/
noncomputable def Try.pinned : Pinned := { name := "ytjbfkdbbdkafnaa", sum := "1c0b3cd1e3aee9de50310ad98fc055e2c6ebfc6784fc3509fc05ae45fc6343fd", checked := Try.checked }
namespace Rows
def none {H : Type} : Left H := { results := [], args := [] }

/-- 'brokerlaw17.SlowPushes': WHATEVER THE INPUT: true; the input reads as it did. -/
def slowPushesSpec : ChangeSpec := { name := "slowPushes", fn := fun _ => fun
  | [d1, d2, d3, d4] => { results := [.lit (.bool true)], args := [d1, d2, d3, d4] }
  | _ => none }
def slowPushesRow : OpenClaim := { program := "ytjbfkdbbdkafnaa", sum := "1c0b3cd1e3aee9de50310ad98fc055e2c6ebfc6784fc3509fc05ae45fc6343fd", func := "broker/brokerlaw17.SlowPushes", spec := "slowPushes", apart := false }
def SlowPushesSaid : Prop := slowPushesRow.holds Try.pinned (OpenSpec.ofChange slowPushesSpec)

/-- ITS FALSE NEIGHBOUR: 'it returns false'. Refute it at one input. -/
def slowPushesWrong : ChangeSpec := { name := "slowPushes", fn := fun _ => fun
  | [d1, d2, d3, d4] => { results := [.lit (.bool false)], args := [d1, d2, d3, d4] }
  | _ => none }
def SlowPushesWrongFalsely : Prop := slowPushesRow.holds Try.pinned (OpenSpec.ofChange slowPushesWrong)

/-- 'brokerlaw17.SlowPops': WHATEVER THE INPUT: true; the input reads as it did. -/
def slowPopsSpec : ChangeSpec := { name := "slowPops", fn := fun _ => fun
  | [d1, d2] => { results := [.lit (.bool true)], args := [d1, d2] }
  | _ => none }
def slowPopsRow : OpenClaim := { program := "ytjbfkdbbdkafnaa", sum := "1c0b3cd1e3aee9de50310ad98fc055e2c6ebfc6784fc3509fc05ae45fc6343fd", func := "broker/brokerlaw17.SlowPops", spec := "slowPops", apart := false }
def SlowPopsSaid : Prop := slowPopsRow.holds Try.pinned (OpenSpec.ofChange slowPopsSpec)

/-- ITS FALSE NEIGHBOUR: 'it returns false'. Refute it at one input. -/
def slowPopsWrong : ChangeSpec := { name := "slowPops", fn := fun _ => fun
  | [d1, d2] => { results := [.lit (.bool false)], args := [d1, d2] }
  | _ => none }
def SlowPopsWrongFalsely : Prop := slowPopsRow.holds Try.pinned (OpenSpec.ofChange slowPopsWrong)

/-- 'brokerlaw17.SlowBytes': WHATEVER THE INPUT: true; the input reads as it did. -/
def slowBytesSpec : ChangeSpec := { name := "slowBytes", fn := fun _ => fun
  | [d1, d2] => { results := [.lit (.bool true)], args := [d1, d2] }
  | _ => none }
def slowBytesRow : OpenClaim := { program := "ytjbfkdbbdkafnaa", sum := "1c0b3cd1e3aee9de50310ad98fc055e2c6ebfc6784fc3509fc05ae45fc6343fd", func := "broker/brokerlaw17.SlowBytes", spec := "slowBytes", apart := false }
def SlowBytesSaid : Prop := slowBytesRow.holds Try.pinned (OpenSpec.ofChange slowBytesSpec)

/-- ITS FALSE NEIGHBOUR: 'it returns false'. Refute it at one input. -/
def slowBytesWrong : ChangeSpec := { name := "slowBytes", fn := fun _ => fun
  | [d1, d2] => { results := [.lit (.bool false)], args := [d1, d2] }
  | _ => none }
def SlowBytesWrongFalsely : Prop := slowBytesRow.holds Try.pinned (OpenSpec.ofChange slowBytesWrong)

/-- 'brokerlaw17.SlowOrder': WHATEVER THE INPUT: true; the input reads as it did. -/
def slowOrderSpec : ChangeSpec := { name := "slowOrder", fn := fun _ => fun
  | [d1, d2, d3] => { results := [.lit (.bool true)], args := [d1, d2, d3] }
  | _ => none }
def slowOrderRow : OpenClaim := { program := "ytjbfkdbbdkafnaa", sum := "1c0b3cd1e3aee9de50310ad98fc055e2c6ebfc6784fc3509fc05ae45fc6343fd", func := "broker/brokerlaw17.SlowOrder", spec := "slowOrder", apart := false }
def SlowOrderSaid : Prop := slowOrderRow.holds Try.pinned (OpenSpec.ofChange slowOrderSpec)

/-- ITS FALSE NEIGHBOUR: 'it returns false'. Refute it at one input. -/
def slowOrderWrong : ChangeSpec := { name := "slowOrder", fn := fun _ => fun
  | [d1, d2, d3] => { results := [.lit (.bool false)], args := [d1, d2, d3] }
  | _ => none }
def SlowOrderWrongFalsely : Prop := slowOrderRow.holds Try.pinned (OpenSpec.ofChange slowOrderWrong)

/-- 'brokerlaw17.SlowEvicts': WHATEVER THE INPUT: true; the input reads as it did. -/
def slowEvictsSpec : ChangeSpec := { name := "slowEvicts", fn := fun _ => fun
  | [d1, d2, d3, d4] => { results := [.lit (.bool true)], args := [d1, d2, d3, d4] }
  | _ => none }
def slowEvictsRow : OpenClaim := { program := "ytjbfkdbbdkafnaa", sum := "1c0b3cd1e3aee9de50310ad98fc055e2c6ebfc6784fc3509fc05ae45fc6343fd", func := "broker/brokerlaw17.SlowEvicts", spec := "slowEvicts", apart := false }
def SlowEvictsSaid : Prop := slowEvictsRow.holds Try.pinned (OpenSpec.ofChange slowEvictsSpec)

/-- ITS FALSE NEIGHBOUR: 'it returns false'. Refute it at one input. -/
def slowEvictsWrong : ChangeSpec := { name := "slowEvicts", fn := fun _ => fun
  | [d1, d2, d3, d4] => { results := [.lit (.bool false)], args := [d1, d2, d3, d4] }
  | _ => none }
def SlowEvictsWrongFalsely : Prop := slowEvictsRow.holds Try.pinned (OpenSpec.ofChange slowEvictsWrong)

/-- 'brokerlaw17.SlowExpires': WHATEVER THE INPUT: true; the input reads as it did. -/
def slowExpiresSpec : ChangeSpec := { name := "slowExpires", fn := fun _ => fun
  | [d1, d2] => { results := [.lit (.bool true)], args := [d1, d2] }
  | _ => none }
def slowExpiresRow : OpenClaim := { program := "ytjbfkdbbdkafnaa", sum := "1c0b3cd1e3aee9de50310ad98fc055e2c6ebfc6784fc3509fc05ae45fc6343fd", func := "broker/brokerlaw17.SlowExpires", spec := "slowExpires", apart := false }
def SlowExpiresSaid : Prop := slowExpiresRow.holds Try.pinned (OpenSpec.ofChange slowExpiresSpec)

/-- ITS FALSE NEIGHBOUR: 'it returns false'. Refute it at one input. -/
def slowExpiresWrong : ChangeSpec := { name := "slowExpires", fn := fun _ => fun
  | [d1, d2] => { results := [.lit (.bool false)], args := [d1, d2] }
  | _ => none }
def SlowExpiresWrongFalsely : Prop := slowExpiresRow.holds Try.pinned (OpenSpec.ofChange slowExpiresWrong)

/- THE SECOND FORM. 'bulk': how many values and letters a reading holds, each counted each time it is reached (what is shared counts as often as it is met; a slice's spare places count too). A statement '..UptoSaid' is the law's where the arguments, and the package variables that the reading takes, are together of bulk at most 1048576: NARROWER than '..Said'. Prove '..Said' where nothing that the law and all that it calls make is longer than what came in: it says more and counts as full. Else prove '..UptoSaid'. A law counts once. -/
mutual
def uptoBulk {H : Type} : DataW H → Nat
  | .lit (.string bytes) => bytes.length + 1
  | .lit _ => 1
  | .nil => 1
  | .ptr d => uptoBulk d + 1
  | .slice elems spare => uptoBulkAll elems + uptoBulkAll spare + 1
  | .agg parts => uptoBulkAll parts + 1
  | .iface _ d => uptoBulk d + 1
  | .map entries => uptoBulkEntries entries + 1
  | .held _ => 1
def uptoBulkAll {H : Type} : List (DataW H) → Nat
  | [] => 0
  | d :: r => uptoBulk d + uptoBulkAll r
def uptoBulkEntries {H : Type} : List (Lit × DataW H) → Nat
  | [] => 0
  | x :: r => uptoBulkEntry x + uptoBulkEntries r
def uptoBulkEntry {H : Type} : Lit × DataW H → Nat
  | (.string bytes, d) => bytes.length + uptoBulk d + 1
  | (_, d) => uptoBulk d + 1
 end
def uptoSmall : (H : Type) → List (DataW H) → Bool := fun _ ds => decide (uptoBulkAll ds ≤ 1048576)
def OpenSpec.upto (s : _root_.Go.ChangeSpec) : _root_.Go.OpenSpec := { _root_.Go.OpenSpec.ofChange s with cond := some uptoSmall }

/-- 'brokerlaw17.SlowPushes', WHERE WHAT IT READS IS OF BULK AT MOST 1048576: true; the input reads as it did. -/
def slowPushesUptoRow : OpenClaim := { program := "ytjbfkdbbdkafnaa", sum := "1c0b3cd1e3aee9de50310ad98fc055e2c6ebfc6784fc3509fc05ae45fc6343fd", func := "broker/brokerlaw17.SlowPushes", spec := "slowPushes", apart := false, narrowed := true }
def SlowPushesUptoSaid : Prop := slowPushesUptoRow.holds Try.pinned (OpenSpec.upto slowPushesSpec)

/-- 'brokerlaw17.SlowPops', WHERE WHAT IT READS IS OF BULK AT MOST 1048576: true; the input reads as it did. -/
def slowPopsUptoRow : OpenClaim := { program := "ytjbfkdbbdkafnaa", sum := "1c0b3cd1e3aee9de50310ad98fc055e2c6ebfc6784fc3509fc05ae45fc6343fd", func := "broker/brokerlaw17.SlowPops", spec := "slowPops", apart := false, narrowed := true }
def SlowPopsUptoSaid : Prop := slowPopsUptoRow.holds Try.pinned (OpenSpec.upto slowPopsSpec)

/-- 'brokerlaw17.SlowBytes', WHERE WHAT IT READS IS OF BULK AT MOST 1048576: true; the input reads as it did. -/
def slowBytesUptoRow : OpenClaim := { program := "ytjbfkdbbdkafnaa", sum := "1c0b3cd1e3aee9de50310ad98fc055e2c6ebfc6784fc3509fc05ae45fc6343fd", func := "broker/brokerlaw17.SlowBytes", spec := "slowBytes", apart := false, narrowed := true }
def SlowBytesUptoSaid : Prop := slowBytesUptoRow.holds Try.pinned (OpenSpec.upto slowBytesSpec)

/-- 'brokerlaw17.SlowOrder', WHERE WHAT IT READS IS OF BULK AT MOST 1048576: true; the input reads as it did. -/
def slowOrderUptoRow : OpenClaim := { program := "ytjbfkdbbdkafnaa", sum := "1c0b3cd1e3aee9de50310ad98fc055e2c6ebfc6784fc3509fc05ae45fc6343fd", func := "broker/brokerlaw17.SlowOrder", spec := "slowOrder", apart := false, narrowed := true }
def SlowOrderUptoSaid : Prop := slowOrderUptoRow.holds Try.pinned (OpenSpec.upto slowOrderSpec)

/-- 'brokerlaw17.SlowEvicts', WHERE WHAT IT READS IS OF BULK AT MOST 1048576: true; the input reads as it did. -/
def slowEvictsUptoRow : OpenClaim := { program := "ytjbfkdbbdkafnaa", sum := "1c0b3cd1e3aee9de50310ad98fc055e2c6ebfc6784fc3509fc05ae45fc6343fd", func := "broker/brokerlaw17.SlowEvicts", spec := "slowEvicts", apart := false, narrowed := true }
def SlowEvictsUptoSaid : Prop := slowEvictsUptoRow.holds Try.pinned (OpenSpec.upto slowEvictsSpec)

/-- 'brokerlaw17.SlowExpires', WHERE WHAT IT READS IS OF BULK AT MOST 1048576: true; the input reads as it did. -/
def slowExpiresUptoRow : OpenClaim := { program := "ytjbfkdbbdkafnaa", sum := "1c0b3cd1e3aee9de50310ad98fc055e2c6ebfc6784fc3509fc05ae45fc6343fd", func := "broker/brokerlaw17.SlowExpires", spec := "slowExpires", apart := false, narrowed := true }
def SlowExpiresUptoSaid : Prop := slowExpiresUptoRow.holds Try.pinned (OpenSpec.upto slowExpiresSpec)

end Rows
end Go.Proofs.Ytjbfkdbbdkafnaa
