import Derived.Test.YtojlmojebnlmdaaGreatDoorSessP
set_option linter.unusedVariables false
set_option linter.unusedSimpArgs false
namespace PX
open Go
namespace Md
theorem aa3 (p0 : aB) (p1 : Int) (g0 : D.okL aB.ks (aB.enc p0)) (g1 : D.okL [.int .i64] ([D.int .i64 p1])) : mJ p0 p1 = some true := by
 have h := aB.dS g0
 unfold mJ
 rw [acm p0 p1 h, bB]
 by_cases hv : oK p0 = 0 ∧ dL 0 1099511627776 p1 = true
 ·rw [decide_eq_true hv]
  obtain ⟨r, _, e1, e2, r1, r2, r3, _⟩ := alX p0 p1 (aon h hv.1) [] (by simp)
  rw [e1, e2, mL]
  simp only [bB, Bool.not_true, dB, cH]
  rw [aby _ r1.abk, adh (by omega) r2]
  simp only [bB, cH]
  rw [SOK.af2 r1]; rfl
 ·rw [decide_eq_false hv]
  simp only [Bool.not_false, cH, mL, bB]
end Md
end PX
