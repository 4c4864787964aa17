import Derived.Test.YthgmhhgmnegocaaGreatDoorPktB
import Derived.KernelRfl
set_option linter.unusedVariables false
set_option linter.unusedSimpArgs false
namespace PX
open Go
namespace Md
def avF (k : Int) : Bool := rngB 3 7 k || k == 14
def aEz (k : Int) : Bool := avF k || (k == 1 || (k == 8 || (k == 10 || k == 12)))
def aEx (k : Int) : Bool := avF k || (k == 2 || (k == 9 || (k == 11 || k == 13)))
def arf (k i : Int) : aA := aA.mk k i false zeroM ([] : Str) ([] : Str) false 0 0 0 (aV.mk false 0 zeroM) false 0 ([] : List aH) ([] : List Str) ([] : List Int)
def ac4 (p : aA) : Int := cond (p.Kind == 3) (cond (p.Message.Level == 1) 4 (cond (p.Message.Level == 2) 5 0)) (cond (p.Kind == 5) 6 (cond (p.Kind == 6) 7 (cond (p.Kind == 12) 13 0)))
def aqm (p : aA) : aA × Bool := cond (ac4 p == 0) (arf 0 0, false) (arf (ac4 p) p.ID, true)
end Md
end PX
