import Derived.Test.YthgmhhgmnegocaaDoorPktB
set_option linter.unusedVariables false
set_option linter.unusedSimpArgs false
namespace PX
open Go
namespace Md
def o9 (l : List Int) (x : Int) : Nat := (l.takeWhile fun y => decide (y < x)).length
def aam : Int → List Int → Bool
 | _, [] => true
 | a, x :: r => cond (decide (x ≤ a)) false (cond (decide (65535 < x)) false (aam x r))
def alh (l : List Int) : Int := cond (decide ((l.length : Int) > 32)) 5 (cond (aam 0 l) 0 15)
def atC (l : List Int) (x : Int) : List Int := (l.takeWhile fun y => decide (y < x)) ++ [x] ++ l.dropWhile fun y => decide (y < x)
end Md
end PX
