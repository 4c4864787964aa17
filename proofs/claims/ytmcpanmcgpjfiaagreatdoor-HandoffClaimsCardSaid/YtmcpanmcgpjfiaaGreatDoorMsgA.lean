import Derived.Test.YtmcpanmcgpjfiaaGreatDoorTopicC
import Derived.Test.YtmcpanmcgpjfiaaGreatDoorPXd
set_option linter.unusedVariables false
set_option linter.unusedSimpArgs false
namespace PX
open Go
namespace Md
def amo (s : Str) : Bool := eC 1 16 s.length && s.all pV
end Md
end PX
