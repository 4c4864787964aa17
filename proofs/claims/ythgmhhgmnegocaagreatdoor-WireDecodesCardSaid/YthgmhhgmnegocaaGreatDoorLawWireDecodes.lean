import Derived.Test.YthgmhhgmnegocaaGreatDoorWdD
set_option linter.unusedVariables false
namespace PX
open Go
namespace Md
theorem ab4 (p0 : (List Int)) (g0 : D.okL [.sl [.int .u8]] ([D.sl [.int .u8] (List.map (aO .u8) p0)])) : nU p0 = some true := by
 unfold nU
 by_cases c : (p0.length : Int) > 5000
 ·rw [aL (by simpa using c), nI]; rfl
 ·obtain ⟨h1, h2, h3⟩ := aai (asR g0 (by omega))
  rw [aQ (by simpa using c), h1, aU, h2, aU, xK _ _ h3, aU, aL (by simp), aL (by simp), nI]; rfl
end Md
end PX
