import Derived.Test.YtojlmojebnlmdaaGreatDoorSessA
set_option linter.unusedVariables false
set_option linter.unusedSimpArgs false
namespace PX
open Go
namespace Md
theorem vW (p0 : aD) (g0 : D.okL aD.ks (aD.enc p0)) : j2 p0 = some true := by
 have h := aD.gB g0
 unfold j2
 rw [apw, afC _ h, ahw _ h]
 simp only [cW, gU, beq_self_eq_true]
end Md
end PX
