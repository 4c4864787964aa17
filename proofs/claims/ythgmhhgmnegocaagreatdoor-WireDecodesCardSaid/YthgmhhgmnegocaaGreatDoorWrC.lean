import Derived.Test.YthgmhhgmnegocaaGreatDoorWrB
set_option linter.unusedVariables false
set_option linter.unusedSimpArgs false
namespace PX
open Go
namespace Md
theorem nI : dD = some true := by kernel_rfl
end Md
end PX
