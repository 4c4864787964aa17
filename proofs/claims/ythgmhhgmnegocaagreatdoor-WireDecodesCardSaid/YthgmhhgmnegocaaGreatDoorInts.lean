import Derived.Test.YthgmhhgmnegocaaGreatDoorPktB
set_option linter.unusedVariables false
set_option linter.unusedSimpArgs false
namespace PX
open Go
namespace Md
def wG (l : List Int) (x : Int) : Nat := (l.takeWhile fun y => decide (y < x)).length
def afl : Int → List Int → Bool
 | _, [] => true
 | a, x :: r => cond (decide (x ≤ a)) false (cond (decide (65535 < x)) false (afl x r))
def asI (l : List Int) : Int := cond (decide ((l.length : Int) > 32)) 5 (cond (afl 0 l) 0 15)
def aEO (l : List Int) (x : Int) : List Int := (l.takeWhile fun y => decide (y < x)) ++ [x] ++ l.dropWhile fun y => decide (y < x)
end Md
end PX
