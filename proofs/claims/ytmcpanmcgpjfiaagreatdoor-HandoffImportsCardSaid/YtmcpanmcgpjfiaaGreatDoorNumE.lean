import Derived.Test.YtmcpanmcgpjfiaaGreatDoorNumD
import Derived.Test.YtmcpanmcgpjfiaaGreatDoorSeatA
set_option linter.unusedVariables false
set_option linter.unusedSimpArgs false
namespace PX
open Go
namespace Md
def ag0 (s : aI) : List Int := jQ cO s.Out.Pool.Used ++ (cO s.Out.Pool.Last ++ (jQ cO s.In.IDs ++ (cO (yM s.Will.Set) ++ zN s.Will)))
def xC (s : aI) : List Int × Int := cond (jT s != 0) ([], jT s) (cond s.Online ([], 9) (iV s, 0))
end Md
end PX
