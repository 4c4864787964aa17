import Derived.Test.YthgmhhgmnegocaaDoorWoA
set_option linter.unusedVariables false
namespace PX
open Go
namespace Md
theorem aiZ {p0 : List Int} (hb : Buf p0) (hl : p0.length ≤ 5000) : fP p0 = some true := by
 unfold fP jQ
 have h1 : nO p0 = some (qX 50000 p0 []) := by
  have := amJ hb (by omega) 50000 fuel 0 [] (by omega) (by omega) (by rw [lP]; omega) (by simp)
  rw [List.drop_zero] at this
  exact this
 rw [h1, aX]
 by_cases c : (qX 50000 p0 []).2 = 0
 ·rw [aK (by simpa using c)]
  obtain ⟨r, h2, h3, h4⟩ := ag3 50000 p0 [] (qX 50000 p0 []).1 hb.1 (by omega) (by rw [← c])
  rw [List.nil_append] at h2
  have hr : r.length ≤ 100000 := by have := alE (l := r); rw [← h3] at this; omega
  rw [h2, air hr (fun x hx => (h4 x hx).1), aX, agT (fun x hx => (h4 x hx).2), List.nil_append, aO (by rfl), aX, ← h3, aO (by simp), agm]; rfl
 ·rw [aO (by simpa using c), agm]; rfl
theorem xP (p0 : (List Int)) (g0 : D.okL [.sl [.int .u8]] ([D.sl [.int .u8] (List.map (aN .u8) p0)])) : lH p0 = some true := by
 unfold lH jQ
 by_cases c : (p0.length : Int) > 5000
 ·rw [aK (by simpa using c), agm]; rfl
 ·have hb := apd g0 (by omega)
  rw [aO (by simpa using c), aha hb, aX]
  by_cases d : (kF p0).2 = 0
  ·obtain ⟨d1, d2⟩ := aiq hb.1 d
   rw [aK (by simpa using d), aeW _ (ahl hb.1), aX, ajW d1, aO (by rfl), aX, ← d2, aO (by simp), aiZ hb (by omega)]
  ·rw [aO (by simpa using d), aiZ hb (by omega)]
end Md
end PX
