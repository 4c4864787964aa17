import Derived.Test.YtojlmojebnlmdaaGreatDoorSessN
set_option linter.unusedVariables false
set_option linter.unusedSimpArgs false
namespace PX
open Go
namespace Md
theorem abV (p0 : aC) (p1 : Int) (g0 : D.okL aC.ks (aC.enc p0)) (g1 : D.okL [.int .i64] ([D.int .i64 p1])) : oA p0 p1 = some true := by
 have g := aC.dS g0
 unfold oA
 simp only [mL, bB]
 by_cases hk : p0.Kind = 1
 ·rw [aT (by simpa using hk)]
  obtain ⟨c, hc, h0⟩ := ajk g hk
  rw [hc, bB]
  by_cases c0 : c = 0
  ·rw [aT (by simpa using c0)]
   have hz := h0 c0
   have ok := aza g hz (show okI .i64 p1 from g1.1.2)
   unfold lO
   rw [(ar0 hz p1).1, (ar0 hz p1).2, mL]
   simp only [bB, cH]
   rw [aby _ ok.abk, bB, cH, ok.af2]; rfl
  ·rw [aN (by simpa using c0)]
 ·rw [aN (by simpa using hk)]
end Md
end PX
