import Derived.Test.YtojlmojebnlmdaaGreatDoorMsgB
import Derived.Test.YtojlmojebnlmdaaGreatDoorGood
set_option linter.unusedVariables false
set_option linter.unusedSimpArgs false
namespace PX
open Go
namespace Md
theorem awl (x y : aF) : (x.Filter == y.Filter && (x.Level == y.Level && (x.NoLocal == y.NoLocal && true))) = decide (x = y) := by
 cases x; cases y; rw [Bool.eq_iff_iff]; simp
theorem ajl (a b : List aF) (ha : okL aF.good a) : lX a b = some (decide (a = b)) := by
 have ha := ha.1
 unfold lX
 by_cases hl : a.length = b.length
 ·rw [dG, aN (afi hl)]
  exact zD (F := fun fu i => fV fu a b i) hl
   (fun fu => by rw [fV, aT (lU (by omega))])
   (fun fu i h h' => by rw [fV, aN (dU h), aN (inr h), aN (inr h'), bU h, bU h', bM (by omega), fE, awl]) (by omega)
 ·rw [dG, aT (ae9 hl)]; symm; simp; rintro rfl; exact hl rfl
theorem ah8 (a b : List Str) (ha : okL okS a) : qZ a b = some (decide (a = b)) := by
 have ha := ha.1
 unfold qZ
 by_cases hl : a.length = b.length
 ·rw [dG, aN (afi hl)]
  exact zD (F := fun fu i => iW fu a b i) hl
   (fun fu => by rw [iW, aT (lU (by omega))])
   (fun fu i h h' => by rw [iW, aN (dU h), aN (inr h), aN (inr h'), bU h, bU h', bM (by omega), fE, aca]) (by omega)
 ·rw [dG, aT (ae9 hl)]; symm; simp; rintro rfl; exact hl rfl
theorem aeU (a b : List Int) (ha : okL (okI .i64) a) : jX a b = some (decide (a = b)) := by
 have ha := ha.1
 unfold jX
 by_cases hl : a.length = b.length
 ·rw [dG, aN (afi hl)]
  exact zD (F := fun fu i => eH fu a b i) hl
   (fun fu => by rw [eH, aT (lU (by omega))])
   (fun fu i h h' => by rw [eH, aN (dU h), aN (inr h), aN (inr h'), bU h, bU h', bM (by omega), dG, aca]) (by omega)
 ·rw [dG, aT (ae9 hl)]; symm; simp; rintro rfl; exact hl rfl
theorem aov (p q : aC) (h : p.good) : jP p q = some (decide (p = q)) := by
 obtain ⟨_, _, hm, _, _, _, _, _, hw, _, h1, h2, h3⟩ := h
 have hm2 := hm.2.2.2.2.2.2.2.1
 have hw2 := hw.2.2.2.2.2.2.2.2.1
 unfold jP nF nN lY
 simp only [bB, dG, fE, qN, n6 p.Message q.Message (by omega), n6 p.Will.Message q.Will.Message (by omega), ajl _ _ h1, ah8 _ _ h2, aeU _ _ h3, aca, ajZ]
 congr 1
 rw [Bool.eq_iff_iff]
 simp only [decide_eq_true_eq]
 obtain ⟨a1, a2, a3, a4, a5, a6, a7, a8, a9, a10, ⟨a11, a12, a13⟩, a14, a15, a16, a17, a18⟩ := p
 obtain ⟨b1, b2, b3, b4, b5, b6, b7, b8, b9, b10, ⟨b11, b12, b13⟩, b14, b15, b16, b17, b18⟩ := q
 simp only [aC.mk.injEq, aU.mk.injEq, and_assoc]
end Md
end PX
