import Derived.Test.YtmcpanmcgpjfiaaGreatDoorPktB
import Derived.KernelRfl
set_option linter.unusedVariables false
set_option linter.unusedSimpArgs false
namespace PX
open Go
namespace Md
def axa (k : Int) : Bool := fE 3 7 k || k == 14
def aIa (k : Int) : Bool := axa k || (k == 1 || (k == 8 || (k == 10 || k == 12)))
def aH8 (k : Int) : Bool := axa k || (k == 2 || (k == 9 || (k == 11 || k == 13)))
end Md
end PX
