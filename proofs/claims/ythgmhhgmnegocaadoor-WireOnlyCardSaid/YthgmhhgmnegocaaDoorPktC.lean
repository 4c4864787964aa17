import Derived.Test.YthgmhhgmnegocaaDoorPktB
import Derived.KernelRfl
set_option linter.unusedVariables false
set_option linter.unusedSimpArgs false
namespace PX
open Go
namespace Md
def anY (k : Int) : Bool := rngB 3 7 k || k == 14
def atl (k : Int) : Bool := anY k || (k == 1 || (k == 8 || (k == 10 || k == 12)))
def atd (k : Int) : Bool := anY k || (k == 2 || (k == 9 || (k == 11 || k == 13)))
def akV (k i : Int) : aA := aA.mk k i false zeroM ([] : Str) ([] : Str) false 0 0 0 (aP.mk false 0 zeroM) false 0 ([] : List aF) ([] : List Str) ([] : List Int)
def xD (p : aA) : Int := cond (p.Kind == 3) (cond (p.Message.Level == 1) 4 (cond (p.Message.Level == 2) 5 0)) (cond (p.Kind == 5) 6 (cond (p.Kind == 6) 7 (cond (p.Kind == 12) 13 0)))
def aj2 (p : aA) : aA × Bool := cond (xD p == 0) (akV 0 0, false) (akV (xD p) p.ID, true)
end Md
end PX
