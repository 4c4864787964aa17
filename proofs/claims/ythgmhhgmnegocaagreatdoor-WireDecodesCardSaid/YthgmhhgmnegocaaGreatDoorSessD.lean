import Derived.Test.YthgmhhgmnegocaaGreatDoorSessC
set_option linter.unusedVariables false
set_option linter.unusedSimpArgs false
namespace PX
open Go
namespace Md
def lf (f : Str) (x : aH) : Bool := Op.bytesLess x.Filter f
def gf (f : Str) (x : aH) : Bool := Op.bytesLess f x.Filter
structure Cut (l : List aH) (f : Str) (A M B : List aH) : Prop where
 eq : l = A ++ (M ++ B)
 lo : ∀ x ∈ A, lf f x = true
 hi : ∀ x ∈ B, gf f x = true
 mid : M = [] ∨ ∃ x, M = [x] ∧ x.Filter = f
end Md
end PX
