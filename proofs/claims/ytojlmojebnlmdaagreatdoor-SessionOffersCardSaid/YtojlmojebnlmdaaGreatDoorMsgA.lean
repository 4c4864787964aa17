import Derived.Test.YtojlmojebnlmdaaGreatDoorTopicC
import Derived.Test.YtojlmojebnlmdaaGreatDoorPXd
set_option linter.unusedVariables false
set_option linter.unusedSimpArgs false
namespace PX
open Go
namespace Md
theorem anI (x y : aD) : (x.Key == y.Key && (x.Value == y.Value && true)) = decide (x = y) := by
 cases x; cases y; rw [Bool.eq_iff_iff]; simp
theorem ao6 {α : Type} {a b : List α} (h : a.length = b.length) : ((a.length : Int) == (b.length : Int)) = true := by rw [h]; simp
theorem apa {α : Type} {a b : List α} (h : ¬ a.length = b.length) : ((a.length : Int) == (b.length : Int)) = false := by simp; omega
theorem ajc (a b : List aD) (ha : a.length < 1000000000000000) : jO a b = some (decide (a = b)) := by
 unfold jO
 by_cases hl : a.length = b.length
 ·rw [n8, aR (ao6 hl)]
  exact ahZ (F := fun fu i => dQ fu a b i) hl
   (fun fu => by rw [dQ, bD (xC (by omega))])
   (fun fu i h h' => by rw [dQ, aR (nK h), aR (inr h), aR (inr h'), dD h, dD h', dA (by omega), uG, anI]) (by omega)
 ·rw [n8, bD (apa hl)]
  symm; simp; rintro rfl; exact hl rfl
theorem wH (a b : aA) (ha : a.Props.length < 1000000000000000) : iG a b = some (decide (a = b)) := by
 unfold iG
 obtain ⟨a1, a2, a3, a4, a5, a6, a7, a8, a9⟩ := a
 obtain ⟨b1, b2, b3, b4, b5, b6, b7, b8, b9⟩ := b
 simp only at ha ⊢
 simp only [aA.mk.injEq, ajc a9 b9 ha, acv, ali, aok]
def amU (s : Str) : Bool := jI 1 16 s.length && s.all acs
theorem alR (b : UInt8) : acs b = decide ((97 ≤ b.toNat ∧ b.toNat ≤ 122) ∨ (48 ≤ b.toNat ∧ b.toNat ≤ 57) ∨ b.toNat = 45) := by
 rw [Bool.eq_iff_iff]; simp only [acs, afP, aiY, Bool.or_eq_true, Bool.and_eq_true, decide_eq_true_eq, or_assoc]
theorem alg (s : Str) : oF s = some (amU s) := by
 unfold oF amU
 simp only [aeK]
 simp only [uG, afX, aix, j1, nL, n8, aiB, alr, aiE, dC, aft, acv, ag7, ak3, alf, aeK, akF, akR, afy]
 cases hr : jI 1 16 s.length
 ·rfl
 ·rw [anm] at hr
  rw [j1, j1]
  unfold oE
  refine tG (F := fun fu i => cG fu s i) (g := fun r => some (r.all acs)) (fun fu => by rw [cG, bD (xC (by omega))]; rfl) (fun fu i h ih => ?_) (by omega)
  rw [cG, aR (nK h), aR (inr h), aep h, dA (by omega), ih, List.all_cons, aeK, alR]
  simp only [uG, afX, aix, j1, nL, n8, aiB, alr, aiE, dC, aft, acv, ag7, ak3, alf, aeK, akF, akR, ali]
  simp only [Bool.cond_decide]; (repeat' split) <;> first | rfl | omega
end Md
end PX
