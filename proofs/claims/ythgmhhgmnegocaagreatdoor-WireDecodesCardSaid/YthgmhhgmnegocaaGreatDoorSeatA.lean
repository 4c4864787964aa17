import Derived.Test.YthgmhhgmnegocaaGreatDoorSessD
import Derived.KernelRfl
set_option linter.unusedVariables false
set_option linter.unusedSimpArgs false
namespace PX
open Go
namespace Md
end Md
end PX
