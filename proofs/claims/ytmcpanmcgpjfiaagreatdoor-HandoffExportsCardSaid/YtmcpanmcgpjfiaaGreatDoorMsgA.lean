import Derived.Test.YtmcpanmcgpjfiaaGreatDoorTopicC
import Derived.Test.YtmcpanmcgpjfiaaGreatDoorPXd
set_option linter.unusedVariables false
set_option linter.unusedSimpArgs false
namespace PX
open Go
namespace Md
theorem anL (x y : aG) : (x.Key == y.Key && (x.Value == y.Value && true)) = decide (x = y) := by
 cases x; cases y; rw [Bool.eq_iff_iff]; simp
theorem apL {α : Type} {a b : List α} (h : a.length = b.length) : ((a.length : Int) == (b.length : Int)) = true := by rw [h]; simp
theorem apz {α : Type} {a b : List α} (h : ¬ a.length = b.length) : ((a.length : Int) == (b.length : Int)) = false := by simp; omega
theorem akv (a b : aC) (ha : a.Props.length < 1000000000000000) : w4 a b = some (decide (a = b)) := by
 have hj : a.Props.length = b.Props.length → wD a b = some (decide (a.Props = b.Props)) := by
  intro hl
  exact ahE (F := fun fu i => mL fu a.Props (a.Props.length : Int) i b) hl
   (fun fu => by rw [mL, aY (xD (by omega))])
   (fun fu i h h' => by rw [mL, aO (eM h), aO (inr h), aO (inr h'), bZ h, bZ h', bW (by omega), lA, anL]) (by omega)
 unfold w4
 obtain ⟨a1, a2, a3, a4, a5, a6, a7, a8, a9⟩ := a
 obtain ⟨b1, b2, b3, b4, b5, b6, b7, b8, b9⟩ := b
 simp only at hj ha ⊢
 simp only [aC.mk.injEq]
 by_cases hl : a9.length = b9.length
 ·rw [hj hl]
  simp only [lA, iJ, apL hl, dE, aiG, aoR]
 ·simp only [lA, iJ, apz hl, dP, aiG, awn]
  symm
  simp; rintro - - - - - - - - rfl; exact hl rfl
theorem anV (a b : List aG) (ha : a.length < 1000000000000000) : lX a b = some (decide (a = b)) := by
 unfold lX
 by_cases hl : a.length = b.length
 ·rw [iJ, aO (apL hl)]
  exact ahE (F := fun fu i => gB fu a b i) hl
   (fun fu => by rw [gB, aY (xD (by omega))])
   (fun fu i h h' => by rw [gB, aO (eM h), aO (inr h), aO (inr h'), bZ h, bZ h', bW (by omega), lA, anL]) (by omega)
 ·rw [iJ, aY (apz hl)]
  symm; simp; rintro rfl; exact hl rfl
theorem abD (a b : aC) (ha : a.Props.length < 1000000000000000) : j6 a b = some (decide (a = b)) := by
 unfold j6
 obtain ⟨a1, a2, a3, a4, a5, a6, a7, a8, a9⟩ := a
 obtain ⟨b1, b2, b3, b4, b5, b6, b7, b8, b9⟩ := b
 simp only at ha ⊢
 simp only [aC.mk.injEq, anV a9 b9 ha, zD, aiG, aoR]
def ahI (s : Str) : Bool := dG 1 16 s.length && s.all sD
theorem amj (b : UInt8) : sD b = decide ((97 ≤ b.toNat ∧ b.toNat ≤ 122) ∨ (48 ≤ b.toNat ∧ b.toNat ≤ 57) ∨ b.toNat = 45) := by
 rw [Bool.eq_iff_iff]; simp only [sD, abf, ahN, Bool.or_eq_true, Bool.and_eq_true, decide_eq_true_eq, or_assoc]
theorem alI (s : Str) : yT s = some (ahI s) := by
 unfold yT ahI
 simp only [wF]
 simp only [lA, abJ, ad1, dE, dP, iJ, agj, aix, aea, bB, abg, zD, aby, agx, aiI, wF, aik, aiE, zE]
 cases hr : dG 1 16 s.length
 ·rfl
 ·rw [agq] at hr
  rw [dE, dE]
  unfold xH
  refine sM (F := fun fu i => fR fu s i) (g := fun r => some (r.all sD)) (fun fu => by rw [fR, aY (xD (by omega))]; rfl) (fun fu i h ih => ?_) (by omega)
  rw [fR, aO (eM h), aO (inr h), ae8 h, bW (by omega), ih, List.all_cons, wF, amj]
  simp only [lA, abJ, ad1, dE, dP, iJ, agj, aix, aea, bB, abg, zD, aby, agx, aiI, wF, aik, aiE, aiG]
  simp only [Bool.cond_decide]; (repeat' split) <;> first | rfl | omega
theorem aqB (s : Str) : sL s = some (ahI s) := by
 unfold sL ahI
 simp only [wF]
 simp only [lA, abJ, ad1, dE, dP, iJ, agj, aix, aea, bB, abg, zD, aby, agx, aiI, wF, aik, aiE, zE]
 cases hr : dG 1 16 s.length
 ·rfl
 ·rw [agq] at hr
  rw [dE, dE]
  unfold sN
  refine sM (F := fun fu i => dX fu s i) (g := fun r => some (r.all sD)) (fun fu => by rw [dX, aY (xD (by omega))]; rfl) (fun fu i h ih => ?_) (by omega)
  rw [dX, aO (eM h), aO (inr h), ae8 h, bW (by omega), ih, List.all_cons, wF, amj]
  simp only [lA, abJ, ad1, dE, dP, iJ, agj, aix, aea, bB, abg, zD, aby, agx, aiI, wF, aik, aiE, aiG]
  simp only [Bool.cond_decide]; (repeat' split) <;> first | rfl | omega
end Md
end PX
