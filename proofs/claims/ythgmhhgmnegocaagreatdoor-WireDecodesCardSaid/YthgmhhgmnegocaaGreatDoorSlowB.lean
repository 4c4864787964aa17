import Derived.Test.YthgmhhgmnegocaaGreatDoorSessA
set_option linter.unusedVariables false
set_option linter.unusedSimpArgs false
namespace PX
open Go
namespace Md
def okM (m : aF) : Prop := m.Props.length * 32 ≤ 140737488351232
def okQ (q : List aF) : Prop := q.length ≤ 1000000 ∧ ∀ m ∈ q, okM m
def aod (q : List aF) (m : aF) (max pol : Int) : List aF × List aF × Bool :=
 if (q.length : Int) < max then (q ++ [m], [], false)
 else if pol ≠ 1 ∨ max < 1 then (q, [m], pol == 3)
 else (q.tail ++ [m], [q.headD default], false)
def live (now : Int) (m : aF) : Bool := !(m.Expires != 0 && decide (now ≥ m.Expires))
end Md
end PX
