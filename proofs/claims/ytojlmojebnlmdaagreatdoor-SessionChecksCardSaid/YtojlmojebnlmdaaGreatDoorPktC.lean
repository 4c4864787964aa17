import Derived.Test.YtojlmojebnlmdaaGreatDoorPktB
import Derived.KernelRfl
set_option linter.unusedVariables false
set_option linter.unusedSimpArgs false
namespace PX
open Go
namespace Md
def ao1 (k : Int) : Bool := hY 3 7 k || k == 14
def awv (k : Int) : Bool := ao1 k || (k == 1 || (k == 8 || (k == 10 || k == 12)))
def awt (k : Int) : Bool := ao1 k || (k == 2 || (k == 9 || (k == 11 || k == 13)))
def aoM (k i : Int) : aE := aE.mk k i false al0 ([] : Str) ([] : Str) false 0 0 0 (aN.mk false 0 al0) false 0 ([] : List aF) ([] : List Str) ([] : List Int)
def akW (p : aE) : Int := cond (p.Kind == 3) (cond (p.Message.Level == 1) 4 (cond (p.Message.Level == 2) 5 0)) (cond (p.Kind == 5) 6 (cond (p.Kind == 6) 7 (cond (p.Kind == 12) 13 0)))
def awu (p : aE) : aE × Bool := cond (akW p == 0) (aoM 0 0, false) (aoM (akW p) p.ID, true)
end Md
end PX
