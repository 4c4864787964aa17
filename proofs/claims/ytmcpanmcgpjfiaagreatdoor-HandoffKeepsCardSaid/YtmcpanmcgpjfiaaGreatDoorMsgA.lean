import Derived.Test.YtmcpanmcgpjfiaaGreatDoorTopicC
import Derived.Test.YtmcpanmcgpjfiaaGreatDoorPXd
set_option linter.unusedVariables false
set_option linter.unusedSimpArgs false
namespace PX
open Go
namespace Md
def ahI (s : Str) : Bool := dG 1 16 s.length && s.all sD
end Md
end PX
