import Derived.Test.YtojlmojebnlmdaaGreatDoorTopicC
import Derived.Test.YtojlmojebnlmdaaGreatDoorPXd
set_option linter.unusedVariables false
set_option linter.unusedSimpArgs false
namespace PX
open Go
namespace Md
theorem aoS (x y : aG) : (x.Key == y.Key && (x.Value == y.Value && true)) = decide (x = y) := by
 cases x; cases y; rw [Bool.eq_iff_iff]; simp
theorem aeU {α : Type} {a b : List α} (h : a.length = b.length) : ((a.length : Int) == (b.length : Int)) = true := by rw [h]; simp
theorem aff {α : Type} {a b : List α} (h : ¬ a.length = b.length) : ((a.length : Int) == (b.length : Int)) = false := by simp; omega
theorem akN (a b : aA) (ha : a.Props.length < 1000000000000000) : wG a b = some (decide (a = b)) := by
 have hj : a.Props.length = b.Props.length → vW a b = some (decide (a.Props = b.Props)) := by
  intro hl
  exact zA (F := fun fu i => lX fu a.Props (a.Props.length : Int) i b) hl
   (fun fu => by rw [lX, aU (mX (by omega))])
   (fun fu i h h' => by rw [lX, aO (eA h), aO (inr h), aO (inr h'), bV h, bV h', bN (by omega), fB, aoS]) (by omega)
 unfold wG
 obtain ⟨a1, a2, a3, a4, a5, a6, a7, a8, a9⟩ := a
 obtain ⟨b1, b2, b3, b4, b5, b6, b7, b8, b9⟩ := b
 simp only at hj ha ⊢
 simp only [aA.mk.injEq]
 by_cases hl : a9.length = b9.length
 ·rw [hj hl]
  simp only [fB, dI, aeU hl, cA, ab4, ajV]
 ·simp only [fB, dI, aff hl, cS, ab4, awv]
  symm
  simp; rintro - - - - - - - - rfl; exact hl rfl
def aoB (s : Str) : Bool := dF 1 16 s.length && s.all sK
theorem amv (b : UInt8) : sK b = decide ((97 ≤ b.toNat ∧ b.toNat ≤ 122) ∨ (48 ≤ b.toNat ∧ b.toNat ≤ 57) ∨ b.toNat = 45) := by
 rw [Bool.eq_iff_iff]; simp only [sK, aa2, ahn, Bool.or_eq_true, Bool.and_eq_true, decide_eq_true_eq, or_assoc]
theorem alu (s : Str) : yC s = some (aoB s) := by
 unfold yC aoB
 simp only [uI]
 simp only [fB, abv, adW, cA, cS, dI, af6, aiE, wR, bD, aa7, qQ, aaP, adR, aiI, uI, aiw, ais, qM]
 cases hr : dF 1 16 s.length
 ·rfl
 ·rw [afK] at hr
  rw [cA, cA]
  unfold wU
  refine mR (F := fun fu i => e9 fu s i) (g := fun r => some (r.all sK)) (fun fu => by rw [e9, aU (mX (by omega))]; rfl) (fun fu i h ih => ?_) (by omega)
  rw [e9, aO (eA h), aO (inr h), afx h, bN (by omega), ih, List.all_cons, uI, amv]
  simp only [fB, abv, adW, cA, cS, dI, af6, aiE, wR, bD, aa7, qQ, aaP, adR, aiI, uI, aiw, ais, ab4]
  simp only [Bool.cond_decide]; (repeat' split) <;> first | rfl | omega
theorem arv (s : Str) : sH s = some (aoB s) := by
 unfold sH aoB
 simp only [uI]
 simp only [fB, abv, adW, cA, cS, dI, af6, aiE, wR, bD, aa7, qQ, aaP, adR, aiI, uI, aiw, ais, qM]
 cases hr : dF 1 16 s.length
 ·rfl
 ·rw [afK] at hr
  rw [cA, cA]
  unfold sD
  refine mR (F := fun fu i => dJ fu s i) (g := fun r => some (r.all sK)) (fun fu => by rw [dJ, aU (mX (by omega))]; rfl) (fun fu i h ih => ?_) (by omega)
  rw [dJ, aO (eA h), aO (inr h), afx h, bN (by omega), ih, List.all_cons, uI, amv]
  simp only [fB, abv, adW, cA, cS, dI, af6, aiE, wR, bD, aa7, qQ, aaP, adR, aiI, uI, aiw, ais, ab4]
  simp only [Bool.cond_decide]; (repeat' split) <;> first | rfl | omega
end Md
end PX
