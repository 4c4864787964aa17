import Derived.Test.YthgmhhgmnegocaaDoorRdD
set_option linter.unusedVariables false
set_option linter.unusedSimpArgs false
namespace PX
open Go
namespace Md
def acL : Rd aF := bH (fJ 88) fun f => bH gJ fun l => bH tJ fun n => eC ⟨f, l, n⟩
def ahV (b : Bool) : Rd aP := cond b (bH gJ fun d => bH afL fun m => eC ⟨true, d, m⟩) (eC ⟨false, 0, zeroM⟩)
end Md
end PX
