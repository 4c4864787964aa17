import Derived.Test.YtojlmojebnlmdaaGreatDoorSessN
set_option linter.unusedVariables false
set_option linter.unusedSimpArgs false
namespace PX
open Go
namespace Md
theorem zX (p0 : aB) (p1 : aC) (p2 : Int) (p3 : Int) (g0 : D.okL aB.ks (aB.enc p0)) (g1 : D.okL aC.ks (aC.enc p1)) (g2 : D.okL [.int .i64] ([D.int .i64 p2])) (g3 : D.okL [.int .i64] ([D.int .i64 p3])) : kL p0 p1 p2 p3 = some true := by
 have h := aB.eV g0
 have g := aC.eV g1
 unfold kL
 rw [aq7 p0 p3 h, bD]
 simp only [aci, bD]
 by_cases hv : tI p0 = 0 ∧ dF 0 1099511627776 p3 = true
 ·rw [decide_eq_true hv]
  simp only [Bool.not_true, cS]
  by_cases hk : p1.Kind = 1
  ·rw [aU (by simpa using hk)]
   obtain ⟨c, hc, h0⟩ := apv g hk
   rw [hc, bD]
   by_cases c0 : c = 0
   ·rw [aU (by simpa using c0)]
    have ok := aw7 h hv.1
    obtain ⟨r, e1, e2, r1, r2, r3⟩ := ar8 ok g (h0 c0) (show okI .i64 p2 from g2.1.2) p3
    have ok2 := ap1 ok (tT.1 hv.2)
    unfold jF
    rw [e1, e2, aj1 _ ok.wX, alq _ ok.wX, aci]
    simp only [bD, cA]
    rw [aoC _ r1.wX, bD, cA, aog (by omega) r2, bD, cA, aoC _ ok2.wX, bD, cA, r1.ajf, bD, aO (by rfl), ok2.ajf]; rfl
   ·rw [aO (by simpa using c0)]
  ·rw [aO (by simpa using hk)]
 ·rw [decide_eq_false hv]
  simp only [Bool.not_false, cA]
end Md
end PX
