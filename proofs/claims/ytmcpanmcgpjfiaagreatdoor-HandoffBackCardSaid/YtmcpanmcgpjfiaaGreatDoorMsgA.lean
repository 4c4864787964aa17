import Derived.Test.YtmcpanmcgpjfiaaGreatDoorTopicC
import Derived.Test.YtmcpanmcgpjfiaaGreatDoorPXd
set_option linter.unusedVariables false
set_option linter.unusedSimpArgs false
namespace PX
open Go
namespace Md
theorem aqg (x y : aG) : (x.Key == y.Key && (x.Value == y.Value && true)) = decide (x = y) := by
 cases x; cases y; rw [Bool.eq_iff_iff]; simp
theorem arl {α : Type} {a b : List α} (h : a.length = b.length) : ((a.length : Int) == (b.length : Int)) = true := by rw [h]; simp
theorem arx {α : Type} {a b : List α} (h : ¬ a.length = b.length) : ((a.length : Int) == (b.length : Int)) = false := by simp; omega
theorem aln (a b : aC) (ha : a.Props.length < 1000000000000000) : yV a b = some (decide (a = b)) := by
 have hj : a.Props.length = b.Props.length → xQ a b = some (decide (a.Props = b.Props)) := by
  intro hl
  exact ai5 (F := fun fu i => oA fu a.Props (a.Props.length : Int) i b) hl
   (fun fu => by rw [oA, aS (aaL (by omega))])
   (fun fu i h h' => by rw [oA, aL (hI h), aL (inr h), aL (inr h'), cI h, cI h', cF (by omega), lN, aqg]) (by omega)
 unfold yV
 obtain ⟨a1, a2, a3, a4, a5, a6, a7, a8, a9⟩ := a
 obtain ⟨b1, b2, b3, b4, b5, b6, b7, b8, b9⟩ := b
 simp only at hj ha ⊢
 simp only [aC.mk.injEq]
 by_cases hl : a9.length = b9.length
 ·rw [hj hl]
  simp only [lN, iH, arl hl, eS, ajI, apP]
 ·simp only [lN, iH, arx hl, eW, ajI, aya]
  symm
  simp; rintro - - - - - - - - rfl; exact hl rfl
theorem aqp (a b : List aG) (ha : a.length < 1000000000000000) : nF a b = some (decide (a = b)) := by
 unfold nF
 by_cases hl : a.length = b.length
 ·rw [iH, aL (arl hl)]
  exact ai5 (F := fun fu i => gO fu a b i) hl
   (fun fu => by rw [gO, aS (aaL (by omega))])
   (fun fu i h h' => by rw [gO, aL (hI h), aL (inr h), aL (inr h'), cI h, cI h', cF (by omega), lN, aqg]) (by omega)
 ·rw [iH, aS (arx hl)]
  symm; simp; rintro rfl; exact hl rfl
theorem acF (a b : aC) (ha : a.Props.length < 1000000000000000) : lH a b = some (decide (a = b)) := by
 unfold lH
 obtain ⟨a1, a2, a3, a4, a5, a6, a7, a8, a9⟩ := a
 obtain ⟨b1, b2, b3, b4, b5, b6, b7, b8, b9⟩ := b
 simp only at ha ⊢
 simp only [aC.mk.injEq, aqp a9 b9 ha, wI, ajI, apP]
def aer (s : Str) : Bool := fE 1 16 s.length && s.all uF
theorem anY (b : UInt8) : uF b = decide ((97 ≤ b.toNat ∧ b.toNat ≤ 122) ∨ (48 ≤ b.toNat ∧ b.toNat ≤ 57) ∨ b.toNat = 45) := by
 rw [Bool.eq_iff_iff]; simp only [uF, acp, ai7, Bool.or_eq_true, Bool.and_eq_true, decide_eq_true_eq, or_assoc]
theorem anj (s : Str) : aar s = some (aer s) := by
 unfold aar aer
 simp only [vC]
 simp only [lN, aai, acC, eS, eW, iH, adz, ae1, acJ, aY, yW, wI, zH, adH, afg, vC, afd, afn, yC]
 cases hr : fE 1 16 s.length
 ·rfl
 ·rw [aht] at hr
  rw [eS, eS]
  unfold zE
  refine vT (F := fun fu i => gI fu s i) (g := fun r => some (r.all uF)) (fun fu => by rw [gI, aS (aaL (by omega))]; rfl) (fun fu i h ih => ?_) (by omega)
  rw [gI, aL (hI h), aL (inr h), agn h, cF (by omega), ih, List.all_cons, vC, anY]
  simp only [lN, aai, acC, eS, eW, iH, adz, ae1, acJ, aY, yW, wI, zH, adH, afg, vC, afd, afn, ajI]
  simp only [Bool.cond_decide]; (repeat' split) <;> first | rfl | omega
theorem arH (s : Str) : uB s = some (aer s) := by
 unfold uB aer
 simp only [vC]
 simp only [lN, aai, acC, eS, eW, iH, adz, ae1, acJ, aY, yW, wI, zH, adH, afg, vC, afd, afn, yC]
 cases hr : fE 1 16 s.length
 ·rfl
 ·rw [aht] at hr
  rw [eS, eS]
  unfold uR
  refine vT (F := fun fu i => eJ fu s i) (g := fun r => some (r.all uF)) (fun fu => by rw [eJ, aS (aaL (by omega))]; rfl) (fun fu i h ih => ?_) (by omega)
  rw [eJ, aL (hI h), aL (inr h), agn h, cF (by omega), ih, List.all_cons, vC, anY]
  simp only [lN, aai, acC, eS, eW, iH, adz, ae1, acJ, aY, yW, wI, zH, adH, afg, vC, afd, afn, ajI]
  simp only [Bool.cond_decide]; (repeat' split) <;> first | rfl | omega
end Md
end PX
