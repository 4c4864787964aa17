import Derived.Test.YthgmhhgmnegocaaGreatDoorSlowB
set_option linter.unusedVariables false
set_option linter.unusedSimpArgs false
namespace PX
open Go
namespace Md
def lv (m : aF) : Bool := m.Level != 0
end Md
end PX
