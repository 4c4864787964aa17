import Derived.Test.YthgmhhgmnegocaaGreatDoorTopicC
import Derived.Test.YthgmhhgmnegocaaGreatDoorPXc
set_option linter.unusedVariables false
set_option linter.unusedSimpArgs false
namespace PX
open Go
namespace Md
theorem apr (x y : aC) : (x.Key == y.Key && (x.Value == y.Value && true)) = decide (x = y) := by
 cases x; cases y; rw [Bool.eq_iff_iff]; simp
theorem aas {α : Type} {a b : List α} (h : a.length = b.length) : ((a.length : Int) == (b.length : Int)) = true := by rw [h]; simp
theorem aaj {α : Type} {a b : List α} (h : ¬ a.length = b.length) : ((a.length : Int) == (b.length : Int)) = false := by simp; omega
theorem aaF (a b : aF) (ha : a.Props.length < 1000000000000000) : oW a b = some (decide (a = b)) := by
 have hj : a.Props.length = b.Props.length → wO a b = some (decide (a.Props = b.Props)) := by
  intro hl
  exact uL (F := fun fu i => m6 fu a.Props (a.Props.length : Int) i b) hl
   (fun fu => by rw [m6, aQ (pV (by omega))])
   (fun fu i h h' => by rw [m6, aL (jC h), aL (inr h), aL (inr h'), cN h, cN h', cD (by omega), fE, apr]) (by omega)
 unfold oW
 obtain ⟨a1, a2, a3, a4, a5, a6, a7, a8, a9⟩ := a
 obtain ⟨b1, b2, b3, b4, b5, b6, b7, b8, b9⟩ := b
 simp only at hj ha ⊢
 simp only [aF.mk.injEq]
 by_cases hl : a9.length = b9.length
 ·rw [hj hl]
  simp only [fE, eV, aas hl, gZ, aaI, agx]
 ·simp only [fE, eV, aaj hl, jB, aaI, awd]
  symm
  simp; rintro - - - - - - - - rfl; exact hl rfl
theorem aoQ (a b : List aC) (ha : a.length < 1000000000000000) : mF a b = some (decide (a = b)) := by
 unfold mF
 by_cases hl : a.length = b.length
 ·rw [eV, aL (aas hl)]
  exact uL (F := fun fu i => gC fu a b i) hl
   (fun fu => by rw [gC, aQ (pV (by omega))])
   (fun fu i h h' => by rw [gC, aL (jC h), aL (inr h), aL (inr h'), cN h, cN h', cD (by omega), fE, apr]) (by omega)
 ·rw [eV, aQ (aaj hl)]
  symm; simp; rintro rfl; exact hl rfl
theorem afB (a b : aF) (ha : a.Props.length < 1000000000000000) : lS a b = some (decide (a = b)) := by
 unfold lS
 obtain ⟨a1, a2, a3, a4, a5, a6, a7, a8, a9⟩ := a
 obtain ⟨b1, b2, b3, b4, b5, b6, b7, b8, b9⟩ := b
 simp only at ha ⊢
 simp only [aF.mk.injEq, aoQ a9 b9 ha, nB, aaI, agx]
def adq (s : Str) : Bool := rngB 1 16 s.length && s.all sH
theorem am0 (b : UInt8) : sH b = decide ((97 ≤ b.toNat ∧ b.toNat ≤ 122) ∨ (48 ≤ b.toNat ∧ b.toNat ≤ 57) ∨ b.toNat = 45) := by
 rw [Bool.eq_iff_iff]; simp only [sH, abv, aiA, Bool.or_eq_true, Bool.and_eq_true, decide_eq_true_eq, or_assoc]
theorem amq (s : Str) : yY s = some (adq s) := by
 unfold yY adq
 simp only [vH]
 simp only [fE, abR, afh, gZ, jB, eV, acK, ae0, sQ, aU, xH, nB, aao, aaL, aeH, vH, afe, ae3, uW]
 cases hr : rngB 1 16 s.length
 ·rfl
 ·rw [mY] at hr
  rw [gZ, gZ]
  unfold yJ
  refine nR (F := fun fu i => fZ fu s i) (g := fun r => some (r.all sH)) (fun fu => by rw [fZ, aQ (pV (by omega))]; rfl) (fun fu i h ih => ?_) (by omega)
  rw [fZ, aL (jC h), aL (inr h), af0 h, cD (by omega), ih, List.all_cons, vH, am0]
  simp only [fE, abR, afh, gZ, jB, eV, acK, ae0, sQ, aU, xH, nB, aao, aaL, aeH, vH, afe, ae3, aaI]
  simp only [Bool.cond_decide]; (repeat' split) <;> first | rfl | omega
theorem aq2 (s : Str) : sX s = some (adq s) := by
 unfold sX adq
 simp only [vH]
 simp only [fE, abR, afh, gZ, jB, eV, acK, ae0, sQ, aU, xH, nB, aao, aaL, aeH, vH, afe, ae3, uW]
 cases hr : rngB 1 16 s.length
 ·rfl
 ·rw [mY] at hr
  rw [gZ, gZ]
  unfold sO
  refine nR (F := fun fu i => eL fu s i) (g := fun r => some (r.all sH)) (fun fu => by rw [eL, aQ (pV (by omega))]; rfl) (fun fu i h ih => ?_) (by omega)
  rw [eL, aL (jC h), aL (inr h), af0 h, cD (by omega), ih, List.all_cons, vH, am0]
  simp only [fE, abR, afh, gZ, jB, eV, acK, ae0, sQ, aU, xH, nB, aao, aaL, aeH, vH, afe, ae3, aaI]
  simp only [Bool.cond_decide]; (repeat' split) <;> first | rfl | omega
end Md
end PX
