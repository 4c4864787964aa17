import Derived.Test.YtmcpanmcgpjfiaaGreatDoorRdE
set_option linter.unusedVariables false
set_option linter.unusedSimpArgs false
namespace PX
open Go
namespace Md
def apT : Rd aO := bU fP fun lim => bU (mB 32 tY) fun items => bU (mB 32 fP) fun used => bU fP fun last => lW ⟨lim, items, ⟨used, last⟩⟩
end Md
end PX
