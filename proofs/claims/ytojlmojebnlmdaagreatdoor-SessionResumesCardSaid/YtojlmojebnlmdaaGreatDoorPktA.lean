import Derived.Test.YtojlmojebnlmdaaGreatDoorMsgB
import Derived.Test.YtojlmojebnlmdaaGreatDoorGood
set_option linter.unusedVariables false
set_option linter.unusedSimpArgs false
namespace PX
open Go
namespace Md
theorem awn (x y : aF) : (x.Filter == y.Filter && (x.Level == y.Level && (x.NoLocal == y.NoLocal && true))) = decide (x = y) := by
 cases x; cases y; rw [Bool.eq_iff_iff]; simp
theorem ai4 (a b : List aF) (ha : okL aF.good a) : mD a b = some (decide (a = b)) := by
 have ha := ha.1
 unfold mD
 by_cases hl : a.length = b.length
 ·rw [dI, aO (aeU hl)]
  exact zA (F := fun fu i => fU fu a b i) hl
   (fun fu => by rw [fU, aU (mX (by omega))])
   (fun fu i h h' => by rw [fU, aO (eA h), aO (inr h), aO (inr h'), bV h, bV h', bN (by omega), fB, awn]) (by omega)
 ·rw [dI, aU (aff hl)]; symm; simp; rintro rfl; exact hl rfl
theorem ahK (a b : List Str) (ha : okL okS a) : qP a b = some (decide (a = b)) := by
 have ha := ha.1
 unfold qP
 by_cases hl : a.length = b.length
 ·rw [dI, aO (aeU hl)]
  exact zA (F := fun fu i => iP fu a b i) hl
   (fun fu => by rw [iP, aU (mX (by omega))])
   (fun fu i h h' => by rw [iP, aO (eA h), aO (inr h), aO (inr h'), bV h, bV h', bN (by omega), fB, ab4]) (by omega)
 ·rw [dI, aU (aff hl)]; symm; simp; rintro rfl; exact hl rfl
theorem aeV (a b : List Int) (ha : okL (okI .i64) a) : jU a b = some (decide (a = b)) := by
 have ha := ha.1
 unfold jU
 by_cases hl : a.length = b.length
 ·rw [dI, aO (aeU hl)]
  exact zA (F := fun fu i => eG fu a b i) hl
   (fun fu => by rw [eG, aU (mX (by omega))])
   (fun fu i h h' => by rw [eG, aO (eA h), aO (inr h), aO (inr h'), bV h, bV h', bN (by omega), dI, ab4]) (by omega)
 ·rw [dI, aU (aff hl)]; symm; simp; rintro rfl; exact hl rfl
theorem anx (p q : aC) (h : p.good) : jN p q = some (decide (p = q)) := by
 obtain ⟨_, _, hm, _, _, _, _, _, hw, _, h1, h2, h3⟩ := h
 have hm2 := hm.2.2.2.2.2.2.2.1
 have hw2 := hw.2.2.2.2.2.2.2.2.1
 unfold jN nA m7 mA
 simp only [bD, dI, fB, qQ, nX p.Message q.Message (by omega), nX p.Will.Message q.Will.Message (by omega), ai4 _ _ h1, ahK _ _ h2, aeV _ _ h3, ab4, ajV]
 congr 1
 rw [Bool.eq_iff_iff]
 simp only [decide_eq_true_eq]
 obtain ⟨a1, a2, a3, a4, a5, a6, a7, a8, a9, a10, ⟨a11, a12, a13⟩, a14, a15, a16, a17, a18⟩ := p
 obtain ⟨b1, b2, b3, b4, b5, b6, b7, b8, b9, b10, ⟨b11, b12, b13⟩, b14, b15, b16, b17, b18⟩ := q
 simp only [aC.mk.injEq, aT.mk.injEq, and_assoc]
end Md
end PX
