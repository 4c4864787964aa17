import Derived.Test.YtojlmojebnlmdaaGreatDoorPktB
import Derived.KernelRfl
set_option linter.unusedVariables false
set_option linter.unusedSimpArgs false
namespace PX
open Go
namespace Md
def apm (k : Int) : Bool := j1 3 7 k || k == 14
def aw4 (k : Int) : Bool := apm k || (k == 1 || (k == 8 || (k == 10 || k == 12)))
def aw2 (k : Int) : Bool := apm k || (k == 2 || (k == 9 || (k == 11 || k == 13)))
def apu (k i : Int) : aF := aF.mk k i false ai3 ([] : Str) ([] : Str) false 0 0 0 (aN.mk false 0 ai3) false 0 ([] : List aD) ([] : List Str) ([] : List Int)
def ak9 (p : aF) : Int := cond (p.Kind == 3) (cond (p.Message.Level == 1) 4 (cond (p.Message.Level == 2) 5 0)) (cond (p.Kind == 5) 6 (cond (p.Kind == 6) 7 (cond (p.Kind == 12) 13 0)))
def aw3 (p : aF) : aF × Bool := cond (ak9 p == 0) (apu 0 0, false) (apu (ak9 p) p.ID, true)
end Md
end PX
