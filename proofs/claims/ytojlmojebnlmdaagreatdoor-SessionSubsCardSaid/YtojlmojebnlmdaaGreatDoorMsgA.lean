import Derived.Test.YtojlmojebnlmdaaGreatDoorTopicC
import Derived.Test.YtojlmojebnlmdaaGreatDoorPXd
set_option linter.unusedVariables false
set_option linter.unusedSimpArgs false
namespace PX
open Go
namespace Md
theorem ao0 (x y : aE) : (x.Key == y.Key && (x.Value == y.Value && true)) = decide (x = y) := by
 cases x; cases y; rw [Bool.eq_iff_iff]; simp
theorem aqe {α : Type} {a b : List α} (h : a.length = b.length) : ((a.length : Int) == (b.length : Int)) = true := by rw [h]; simp
theorem apO {α : Type} {a b : List α} (h : ¬ a.length = b.length) : ((a.length : Int) == (b.length : Int)) = false := by simp; omega
theorem akF (a b : List aE) (ha : a.length < 1000000000000000) : kE a b = some (decide (a = b)) := by
 unfold kE
 by_cases hl : a.length = b.length
 ·rw [oQ, aO (aqe hl)]
  exact aiJ (F := fun fu i => dV fu a b i) hl
   (fun fu => by rw [dV, aT (tB (by omega))])
   (fun fu i h h' => by rw [dV, aO (jX h), aO (inr h), aO (inr h'), cE h, cE h', bU (by omega), rS, ao0]) (by omega)
 ·rw [oQ, aT (apO hl)]
  symm; simp; rintro rfl; exact hl rfl
theorem w1 (a b : aA) (ha : a.Props.length < 1000000000000000) : iN a b = some (decide (a = b)) := by
 unfold iN
 obtain ⟨a1, a2, a3, a4, a5, a6, a7, a8, a9⟩ := a
 obtain ⟨b1, b2, b3, b4, b5, b6, b7, b8, b9⟩ := b
 simp only at ha ⊢
 simp only [aA.mk.injEq, akF a9 b9 ha, ac8, al2, aoK]
def ao7 (s : Str) : Bool := j1 1 16 s.length && s.all pF
theorem amU (b : UInt8) : pF b = decide ((97 ≤ b.toNat ∧ b.toNat ≤ 122) ∨ (48 ≤ b.toNat ∧ b.toNat ≤ 57) ∨ b.toNat = 45) := by
 rw [Bool.eq_iff_iff]; simp only [pF, wB, aeN, Bool.or_eq_true, Bool.and_eq_true, decide_eq_true_eq, or_assoc]
theorem amm (s : Str) : oT s = some (ao7 s) := by
 unfold oT ao7
 simp only [afg]
 simp only [rS, agG, aji, jU, lA, oQ, aje, al7, ajm, bY, agh, ac8, afi, alB, al9, afg, amt, alz, acN]
 cases hr : j1 1 16 s.length
 ·rfl
 ·rw [aoP] at hr
  rw [jU, jU]
  unfold oO
  refine uO (F := fun fu i => cM fu s i) (g := fun r => some (r.all pF)) (fun fu => by rw [cM, aT (tB (by omega))]; rfl) (fun fu i h ih => ?_) (by omega)
  rw [cM, aO (jX h), aO (inr h), aeV h, bU (by omega), ih, List.all_cons, afg, amU]
  simp only [rS, agG, aji, jU, lA, oQ, aje, al7, ajm, bY, agh, ac8, afi, alB, al9, afg, amt, alz, al2]
  simp only [Bool.cond_decide]; (repeat' split) <;> first | rfl | omega
end Md
end PX
