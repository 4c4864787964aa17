import Derived.Test.YthgmhhgmnegocaaGreatDoorWrA
set_option linter.unusedVariables false
set_option linter.unusedSimpArgs false
namespace PX
open Go
namespace Md
def tY (p : aA) : List Int × Int := cond (jK p != 0) ([], jK p) (oC p, 0)
end Md
end PX
