import Derived.Test.YtmcpanmcgpjfiaaGreatDoorPktB
import Derived.KernelRfl
set_option linter.unusedVariables false
set_option linter.unusedSimpArgs false
namespace PX
open Go
namespace Md
def ash (k : Int) : Bool := eC 3 7 k || k == 14
def aCX (k : Int) : Bool := ash k || (k == 1 || (k == 8 || (k == 10 || k == 12)))
def aC2 (k : Int) : Bool := ash k || (k == 2 || (k == 9 || (k == 11 || k == 13)))
end Md
end PX
