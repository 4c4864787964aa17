import Derived.Test.YtojlmojebnlmdaaGreatDoorTopicC
import Derived.Test.YtojlmojebnlmdaaGreatDoorPXd
set_option linter.unusedVariables false
set_option linter.unusedSimpArgs false
namespace PX
open Go
namespace Md
theorem alE (x y : aD) : (x.Key == y.Key && (x.Value == y.Value && true)) = decide (x = y) := by
 cases x; cases y; rw [Bool.eq_iff_iff]; simp
theorem an1 {α : Type} {a b : List α} (h : a.length = b.length) : ((a.length : Int) == (b.length : Int)) = true := by rw [h]; simp
theorem anK {α : Type} {a b : List α} (h : ¬ a.length = b.length) : ((a.length : Int) == (b.length : Int)) = false := by simp; omega
theorem aiE (a b : List aD) (ha : a.length < 1000000000000000) : jE a b = some (decide (a = b)) := by
 unfold jE
 by_cases hl : a.length = b.length
 ·rw [oD, aT (an1 hl)]
  exact akY (F := fun fu i => dO fu a b i) hl
   (fun fu => by rw [dO, bE (v8 (by omega))])
   (fun fu i h h' => by rw [dO, aT (n4 h), aT (inr h), aT (inr h'), fA h, fA h', dC (by omega), sY, alE]) (by omega)
 ·rw [oD, bE (anK hl)]
  symm; simp; rintro rfl; exact hl rfl
theorem ai3 (a b : aA) (ha : a.Props.length < 1000000000000000) : mH a b = some (decide (a = b)) := by
 unfold mH
 obtain ⟨a1, a2, a3, a4, a5, a6, a7, a8, a9⟩ := a
 obtain ⟨b1, b2, b3, b4, b5, b6, b7, b8, b9⟩ := b
 simp only at ha ⊢
 simp only [aA.mk.injEq, aiE a9 b9 ha, abu, anc, amH]
def am1 (s : Str) : Bool := gJ 1 16 s.length && s.all ace
theorem ak2 (b : UInt8) : ace b = decide ((97 ≤ b.toNat ∧ b.toNat ≤ 122) ∨ (48 ≤ b.toNat ∧ b.toNat ≤ 57) ∨ b.toNat = 45) := by
 rw [Bool.eq_iff_iff]; simp only [ace, aew, aie, Bool.or_eq_true, Bool.and_eq_true, decide_eq_true_eq, or_assoc]
theorem ajY (s : Str) : nC s = some (am1 s) := by
 unfold nC am1
 simp only [abt]
 simp only [sY, afz, ahI, j4, oC, oD, ahw, ajP, ahy, cL, aeH, abu, agJ, akp, akv, abt, ajK, aka, aeA]
 cases hr : gJ 1 16 s.length
 ·rfl
 ·rw [amc] at hr
  rw [j4, j4]
  unfold nD
  refine zJ (F := fun fu i => cI fu s i) (g := fun r => some (r.all ace)) (fun fu => by rw [cI, bE (v8 (by omega))]; rfl) (fun fu i h ih => ?_) (by omega)
  rw [cI, aT (n4 h), aT (inr h), adD h, dC (by omega), ih, List.all_cons, abt, ak2]
  simp only [sY, afz, ahI, j4, oC, oD, ahw, ajP, ahy, cL, aeH, abu, agJ, akp, akv, abt, ajK, aka, anc]
  simp only [Bool.cond_decide]; (repeat' split) <;> first | rfl | omega
end Md
end PX
