import Derived.Test.YtmcpanmcgpjfiaaGreatDoorPktB
set_option linter.unusedVariables false
set_option linter.unusedSimpArgs false
namespace PX
open Go
namespace Md
def rV (l : List Int) (x : Int) : Nat := (l.takeWhile fun y => decide (y < x)).length
def qC : Int → List Int → Bool
 | _, [] => true
 | a, x :: r => cond (decide (x ≤ a)) false (cond (decide (65535 < x)) false (qC x r))
def wL (l : List Int) : Int := cond (decide ((l.length : Int) > 32)) 5 (cond (qC 0 l) 0 15)
def aFV (l : List Int) (x : Int) : List Int := (l.takeWhile fun y => decide (y < x)) ++ [x] ++ l.dropWhile fun y => decide (y < x)
end Md
end PX
