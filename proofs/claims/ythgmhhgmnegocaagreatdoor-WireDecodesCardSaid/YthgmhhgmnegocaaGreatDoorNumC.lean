import Derived.Test.YthgmhhgmnegocaaGreatDoorNumB
import Derived.Test.YthgmhhgmnegocaaGreatDoorSessB
set_option linter.unusedVariables false
set_option linter.unusedSimpArgs false
namespace PX
open Go
namespace Md
def fS (b : Bool) : Int := if b then 1 else 0
def xT (x : aH) : List Int := fL x.Filter ++ (cV x.Level ++ cV (fS x.NoLocal))
end Md
end PX
