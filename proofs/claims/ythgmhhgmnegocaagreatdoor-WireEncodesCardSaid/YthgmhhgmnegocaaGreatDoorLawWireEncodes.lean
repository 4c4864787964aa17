import Derived.Test.YthgmhhgmnegocaaGreatDoorWrC
set_option linter.unusedVariables false
namespace PX
open Go
namespace Md
theorem ab2 (p0 : aA) (g0 : D.okL aA.ks (aA.enc p0)) : nV p0 = some true := by
 have g : p0.good := aA.lB g0
 obtain ⟨b, hb⟩ := aqn p0
 unfold nV oB
 rw [hb, aU]
 cases b with
 | false => rw [aL (by rfl), nI]; rfl
 | true =>
  have hl := akC g
  rw [aQ (by rfl), ahg _ g, aU, aof _ g, aU, aU, aL (by simp), aL (by simp), aL (by simp; omega), nI]; rfl
end Md
end PX
