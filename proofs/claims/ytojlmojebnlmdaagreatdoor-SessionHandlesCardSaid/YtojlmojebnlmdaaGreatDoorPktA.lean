import Derived.Test.YtojlmojebnlmdaaGreatDoorMsgB
import Derived.Test.YtojlmojebnlmdaaGreatDoorGood
set_option linter.unusedVariables false
set_option linter.unusedSimpArgs false
namespace PX
open Go
namespace Md
theorem awl (x y : aF) : (x.Filter == y.Filter && (x.Level == y.Level && (x.NoLocal == y.NoLocal && true))) = decide (x = y) := by
 cases x; cases y; rw [Bool.eq_iff_iff]; simp
theorem ajl (a b : List aF) (ha : okL aF.good a) : lX a b = some (decide (a = b)) := by
 have ha := ha.1
 unfold lX
 by_cases hl : a.length = b.length
 ·rw [dG, aN (afi hl)]
  exact zD (F := fun fu i => fV fu a b i) hl
   (fun fu => by rw [fV, aT (lU (by omega))])
   (fun fu i h h' => by rw [fV, aN (dU h), aN (inr h), aN (inr h'), bU h, bU h', bM (by omega), fE, awl]) (by omega)
 ·rw [dG, aT (ae9 hl)]; symm; simp; rintro rfl; exact hl rfl
theorem ah8 (a b : List Str) (ha : okL okS a) : qZ a b = some (decide (a = b)) := by
 have ha := ha.1
 unfold qZ
 by_cases hl : a.length = b.length
 ·rw [dG, aN (afi hl)]
  exact zD (F := fun fu i => iW fu a b i) hl
   (fun fu => by rw [iW, aT (lU (by omega))])
   (fun fu i h h' => by rw [iW, aN (dU h), aN (inr h), aN (inr h'), bU h, bU h', bM (by omega), fE, aca]) (by omega)
 ·rw [dG, aT (ae9 hl)]; symm; simp; rintro rfl; exact hl rfl
theorem aeU (a b : List Int) (ha : okL (okI .i64) a) : jX a b = some (decide (a = b)) := by
 have ha := ha.1
 unfold jX
 by_cases hl : a.length = b.length
 ·rw [dG, aN (afi hl)]
  exact zD (F := fun fu i => eH fu a b i) hl
   (fun fu => by rw [eH, aT (lU (by omega))])
   (fun fu i h h' => by rw [eH, aN (dU h), aN (inr h), aN (inr h'), bU h, bU h', bM (by omega), dG, aca]) (by omega)
 ·rw [dG, aT (ae9 hl)]; symm; simp; rintro rfl; exact hl rfl
end Md
end PX
