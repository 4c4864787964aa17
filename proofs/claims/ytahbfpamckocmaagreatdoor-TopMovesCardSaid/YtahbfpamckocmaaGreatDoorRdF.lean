import Derived.Test.YtahbfpamckocmaaGreatDoorRdE
set_option linter.unusedVariables false
set_option linter.unusedSimpArgs false
namespace PX
open Go
namespace Md
def ati : Rd aH := bN gC fun lim => bN (mS 32 vM) fun items => bN (mS 32 gC) fun used => bN gC fun last => lK ⟨lim, items, ⟨used, last⟩⟩
end Md
end PX
