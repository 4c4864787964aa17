import Derived.Test.YthgmhhgmnegocaaDoorWrC
set_option linter.unusedVariables false
set_option linter.unusedSimpArgs false
namespace PX
open Go
namespace Md
def rH : List aA → List Int → List Int × Int
 | [], w => (w, 0)
 | p :: r, w => cond ((tH p).2 != 0) ([], (tH p).2) (rH r (w ++ (cB ((tH p).1.length : Int) ++ (tH p).1)))
end Md
end PX
