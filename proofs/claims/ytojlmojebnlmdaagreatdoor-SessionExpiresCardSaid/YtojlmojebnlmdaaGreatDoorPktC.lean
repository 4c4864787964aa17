import Derived.Test.YtojlmojebnlmdaaGreatDoorPktB
import Derived.KernelRfl
set_option linter.unusedVariables false
set_option linter.unusedSimpArgs false
namespace PX
open Go
namespace Md
def anb (k : Int) : Bool := gJ 3 7 k || k == 14
def auk (k : Int) : Bool := anb k || (k == 1 || (k == 8 || (k == 10 || k == 12)))
def auj (k : Int) : Bool := anb k || (k == 2 || (k == 9 || (k == 11 || k == 13)))
def anp (k i : Int) : aE := aE.mk k i false ahD ([] : Str) ([] : Str) false 0 0 0 (aN.mk false 0 ahD) false 0 ([] : List aF) ([] : List Str) ([] : List Int)
def ajq (p : aE) : Int := cond (p.Kind == 3) (cond (p.Message.Level == 1) 4 (cond (p.Message.Level == 2) 5 0)) (cond (p.Kind == 5) 6 (cond (p.Kind == 6) 7 (cond (p.Kind == 12) 13 0)))
def aui (p : aE) : aE × Bool := cond (ajq p == 0) (anp 0 0, false) (anp (ajq p) p.ID, true)
end Md
end PX
