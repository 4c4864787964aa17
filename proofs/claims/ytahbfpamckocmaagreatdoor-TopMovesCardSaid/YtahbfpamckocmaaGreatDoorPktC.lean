import Derived.Test.YtahbfpamckocmaaGreatDoorPktB
import Derived.KernelRfl
set_option linter.unusedVariables false
set_option linter.unusedSimpArgs false
namespace PX
open Go
namespace Md
def aqI (k : Int) : Bool := eL 3 7 k || k == 14
def aya (k : Int) : Bool := aqI k || (k == 1 || (k == 8 || (k == 10 || k == 12)))
def ax2 (k : Int) : Bool := aqI k || (k == 2 || (k == 9 || (k == 11 || k == 13)))
def ami (k i : Int) : aF := aF.mk k i false lP ([] : Str) ([] : Str) false 0 0 0 (aV.mk false 0 lP) false 0 ([] : List aG) ([] : List Str) ([] : List Int)
def aak (p : aF) : Int := cond (p.Kind == 3) (cond (p.Message.Level == 1) 4 (cond (p.Message.Level == 2) 5 0)) (cond (p.Kind == 5) 6 (cond (p.Kind == 6) 7 (cond (p.Kind == 12) 13 0)))
def amb (p : aF) : aF × Bool := cond (aak p == 0) (ami 0 0, false) (ami (aak p) p.ID, true)
end Md
end PX
