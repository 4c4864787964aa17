import Derived.Test.YthgmhhgmnegocaaGreatDoorRdD
set_option linter.unusedVariables false
set_option linter.unusedSimpArgs false
namespace PX
open Go
namespace Md
def adw : Rd aH := bQ (gK 88) fun f => bQ iL fun l => bQ yD fun n => eU ⟨f, l, n⟩
def anP (b : Bool) : Rd aV := cond b (bQ iL fun d => bQ alT fun m => eU ⟨true, d, m⟩) (eU ⟨false, 0, zeroM⟩)
end Md
end PX
