import Derived.Test.YtojlmojebnlmdaaGreatDoorTopicC
import Derived.Test.YtojlmojebnlmdaaGreatDoorPXd
set_option linter.unusedVariables false
set_option linter.unusedSimpArgs false
namespace PX
open Go
namespace Md
theorem aj7 (x y : aC) : (x.Key == y.Key && (x.Value == y.Value && true)) = decide (x = y) := by
 cases x; cases y; rw [Bool.eq_iff_iff]; simp
theorem akP {α : Type} {a b : List α} (h : a.length = b.length) : ((a.length : Int) == (b.length : Int)) = true := by rw [h]; simp
theorem akQ {α : Type} {a b : List α} (h : ¬ a.length = b.length) : ((a.length : Int) == (b.length : Int)) = false := by simp; omega
theorem agy (a b : aA) (ha : a.Props.length < 1000000000000000) : rF a b = some (decide (a = b)) := by
 have hj : a.Props.length = b.Props.length → qZ a b = some (decide (a.Props = b.Props)) := by
  intro hl
  exact aid (F := fun fu i => j6 fu a.Props (a.Props.length : Int) i b) hl
   (fun fu => by rw [j6, aW (uU (by omega))])
   (fun fu i h h' => by rw [j6, aQ (kP h), aQ (inr h), aQ (inr h'), cP h, cP h', bY (by omega), jE, aj7]) (by omega)
 unfold rF
 obtain ⟨a1, a2, a3, a4, a5, a6, a7, a8, a9⟩ := a
 obtain ⟨b1, b2, b3, b4, b5, b6, b7, b8, b9⟩ := b
 simp only at hj ha ⊢
 simp only [aA.mk.injEq]
 by_cases hl : a9.length = b9.length
 ·rw [hj hl]
  simp only [jE, fN, akP hl, gU, af9, aji]
 ·simp only [jE, fN, akQ hl, mX, af9, ape]
  symm
  simp; rintro - - - - - - - - rfl; exact hl rfl
theorem ajT (a b : List aC) (ha : a.length < 1000000000000000) : jO a b = some (decide (a = b)) := by
 unfold jO
 by_cases hl : a.length = b.length
 ·rw [fN, aQ (akP hl)]
  exact aid (F := fun fu i => dU fu a b i) hl
   (fun fu => by rw [dU, aW (uU (by omega))])
   (fun fu i h h' => by rw [dU, aQ (kP h), aQ (inr h), aQ (inr h'), cP h, cP h', bY (by omega), jE, aj7]) (by omega)
 ·rw [fN, aW (akQ hl)]
  symm; simp; rintro rfl; exact hl rfl
theorem akw (a b : aA) (ha : a.Props.length < 1000000000000000) : nJ a b = some (decide (a = b)) := by
 unfold nJ
 obtain ⟨a1, a2, a3, a4, a5, a6, a7, a8, a9⟩ := a
 obtain ⟨b1, b2, b3, b4, b5, b6, b7, b8, b9⟩ := b
 simp only at ha ⊢
 simp only [aA.mk.injEq, ajT a9 b9 ha, uA, af9, aji]
def ajS (s : Str) : Bool := hY 1 16 s.length && s.all oI
theorem ah7 (b : UInt8) : oI b = decide ((97 ≤ b.toNat ∧ b.toNat ≤ 122) ∨ (48 ≤ b.toNat ∧ b.toNat ≤ 57) ∨ b.toNat = 45) := by
 rw [Bool.eq_iff_iff]; simp only [oI, wC, aew, Bool.or_eq_true, Bool.and_eq_true, decide_eq_true_eq, or_assoc]
theorem ahU (s : Str) : s9 s = some (ajS s) := by
 unfold s9 ajS
 simp only [sQ]
 simp only [jE, xI, aaM, gU, mX, fN, acV, aeR, aa2, cW, wN, uA, wB, acy, aeI, sQ, aeK, aeH, tX]
 cases hr : hY 1 16 s.length
 ·rfl
 ·rw [ajW] at hr
  rw [gU, gU]
  unfold sM
  refine uI (F := fun fu i => dO fu s i) (g := fun r => some (r.all oI)) (fun fu => by rw [dO, aW (uU (by omega))]; rfl) (fun fu i h ih => ?_) (by omega)
  rw [dO, aQ (kP h), aQ (inr h), abJ h, bY (by omega), ih, List.all_cons, sQ, ah7]
  simp only [jE, xI, aaM, gU, mX, fN, acV, aeR, aa2, cW, wN, uA, wB, acy, aeI, sQ, aeK, aeH, af9]
  simp only [Bool.cond_decide]; (repeat' split) <;> first | rfl | omega
theorem alI (s : Str) : oC s = some (ajS s) := by
 unfold oC ajS
 simp only [sQ]
 simp only [jE, xI, aaM, gU, mX, fN, acV, aeR, aa2, cW, wN, uA, wB, acy, aeI, sQ, aeK, aeH, tX]
 cases hr : hY 1 16 s.length
 ·rfl
 ·rw [ajW] at hr
  rw [gU, gU]
  unfold oH
  refine uI (F := fun fu i => cL fu s i) (g := fun r => some (r.all oI)) (fun fu => by rw [cL, aW (uU (by omega))]; rfl) (fun fu i h ih => ?_) (by omega)
  rw [cL, aQ (kP h), aQ (inr h), abJ h, bY (by omega), ih, List.all_cons, sQ, ah7]
  simp only [jE, xI, aaM, gU, mX, fN, acV, aeR, aa2, cW, wN, uA, wB, acy, aeI, sQ, aeK, aeH, af9]
  simp only [Bool.cond_decide]; (repeat' split) <;> first | rfl | omega
end Md
end PX
