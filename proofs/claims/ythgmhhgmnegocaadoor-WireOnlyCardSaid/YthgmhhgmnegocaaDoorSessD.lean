import Derived.Test.YthgmhhgmnegocaaDoorSessC
set_option linter.unusedVariables false
set_option linter.unusedSimpArgs false
namespace PX
open Go
namespace Md
def lf (f : Str) (x : aF) : Bool := Op.bytesLess x.Filter f
def gf (f : Str) (x : aF) : Bool := Op.bytesLess f x.Filter
structure Cut (l : List aF) (f : Str) (A M B : List aF) : Prop where
 eq : l = A ++ (M ++ B)
 lo : ∀ x ∈ A, lf f x = true
 hi : ∀ x ∈ B, gf f x = true
 mid : M = [] ∨ ∃ x, M = [x] ∧ x.Filter = f
end Md
end PX
