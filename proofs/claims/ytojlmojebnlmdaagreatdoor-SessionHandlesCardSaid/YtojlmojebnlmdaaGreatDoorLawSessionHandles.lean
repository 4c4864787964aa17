import Derived.Test.YtojlmojebnlmdaaGreatDoorSessH
set_option linter.unusedVariables false
set_option linter.unusedSimpArgs false
namespace PX
open Go
namespace Md
theorem aas (p0 : aB) (p1 : aC) (p2 : Int) (g0 : D.okL aB.ks (aB.enc p0)) (g1 : D.okL aC.ks (aC.enc p1)) (g2 : D.okL [.int .i64] ([D.int .i64 p2])) : kN p0 p1 p2 = some true := by
 have h := aB.dS g0
 unfold kN
 rw [acm p0 p2 h, bB]
 by_cases hv : oK p0 = 0 ∧ dL 0 1099511627776 p2 = true
 ·rw [decide_eq_true hv]
  obtain ⟨r, e1, e2, r1, r2, r3, _⟩ := aqp (aon h hv.1) p1 p2
  rw [e1, e2, mL]
  simp only [bB, Bool.not_true, dB, cH, beq_self_eq_true]
  rw [aby _ r1, bB, cH, adh (by omega) r2]; rfl
 ·rw [decide_eq_false hv]
  simp only [Bool.not_false, cH, mL, bB]
end Md
end PX
