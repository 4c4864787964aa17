import Derived.Test.YtojlmojebnlmdaaGreatDoorSessB
set_option linter.unusedVariables false
set_option linter.unusedSimpArgs false
namespace PX
open Go
namespace Md
theorem sU (p0 : aC) (p1 : Int) (p2 : Int) (g0 : D.okL aC.ks (aC.enc p0)) (g1 : D.okL [.int .i64] ([D.int .i64 p1])) (g2 : D.okL [.int .i64] ([D.int .i64 p2])) : iT p0 p1 p2 = some true := by
 have h := aC.fX g0
 unfold iT
 rw [akx p0 p1 h, cL]
 by_cases hv : xR p0 = 0 ∧ gJ 0 1099511627776 p1 = true
 ·rw [decide_eq_true hv, afh]
  simp only [cL, Bool.not_true, oC]
  cases gJ 0 1099511627776 p2 with
  | false => simp only [Bool.not_false, j4, agq, cL]
  | true =>
   simp only [Bool.not_true, oC]
   unfold g8
   rw [ajB p0 (alL hv.1), cL, agq, cL, j4]
   have e : iK p0 p2 = iO p0 p2 := rfl
   have e2 : ∃ b, iO p0 p2 = some b := by unfold iO; cases p0.Online <;> exact ⟨_, rfl⟩
   obtain ⟨b, e2⟩ := e2
   rw [e, e2]
   simp only [cL, beq_self_eq_true, j4, ajF, ajE, iK, Bool.not_false]
 ·rw [decide_eq_false hv]
  simp only [Bool.not_false, j4, agq, cL]
end Md
end PX
