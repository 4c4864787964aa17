import Derived.Test.YtmcpanmcgpjfiaaGreatDoorNumE
set_option linter.unusedVariables false
set_option linter.unusedSimpArgs false
namespace PX
open Go
namespace Md
theorem aaB (p0 : aI) (g0 : D.okL aI.ks (aI.enc p0)) : lE p0 = some true := by
 have g := aI.hR g0
 obtain ⟨b, hb⟩ := apc p0
 unfold lE
 rw [hb, aiq, asG p0 g, amR p0 g]
 unfold lJ
 cases b
 ·rfl
 ·simp only [bB, Bool.not_true, dP, beq_self_eq_true, dE]
end Md
end PX
