import Derived.Test.YtahbfpamckocmaaGreatDoorTopicC
import Derived.Test.YtahbfpamckocmaaGreatDoorPXd
set_option linter.unusedVariables false
set_option linter.unusedSimpArgs false
namespace PX
open Go
namespace Md
theorem aqe (x y : aD) : (x.Key == y.Key && (x.Value == y.Value && true)) = decide (x = y) := by
 cases x; cases y; rw [Bool.eq_iff_iff]; simp
theorem arA {α : Type} {a b : List α} (h : a.length = b.length) : ((a.length : Int) == (b.length : Int)) = true := by rw [h]; simp
theorem arR {α : Type} {a b : List α} (h : ¬ a.length = b.length) : ((a.length : Int) == (b.length : Int)) = false := by simp; omega
theorem ag7 (a b : aA) (ha : a.Props.length < 1000000000000000) : tB a b = some (decide (a = b)) := by
 have hj : a.Props.length = b.Props.length → sG a b = some (decide (a.Props = b.Props)) := by
  intro hl
  exact aoh (F := fun fu i => kT fu a.Props (a.Props.length : Int) i b) hl
   (fun fu => by rw [kT, aN (zG (by omega))])
   (fun fu i h h' => by rw [kT, aM (lL h), aM (inr h), aM (inr h'), dV h, dV h', cG (by omega), qC, aqe]) (by omega)
 unfold tB
 obtain ⟨a1, a2, a3, a4, a5, a6, a7, a8, a9⟩ := a
 obtain ⟨b1, b2, b3, b4, b5, b6, b7, b8, b9⟩ := b
 simp only at hj ha ⊢
 simp only [aA.mk.injEq]
 by_cases hl : a9.length = b9.length
 ·rw [hj hl]
  simp only [qC, oT, arA hl, cS, anu, aoU]
 ·simp only [qC, oT, arR hl, dL, anu, arM]
  symm
  simp; rintro - - - - - - - - rfl; exact hl rfl
def ade (s : Str) : Bool := eL 1 16 s.length && s.all sL
theorem aoP (b : UInt8) : sL b = decide ((97 ≤ b.toNat ∧ b.toNat ≤ 122) ∨ (48 ≤ b.toNat ∧ b.toNat ≤ 57) ∨ b.toNat = 45) := by
 rw [Bool.eq_iff_iff]; simp only [sL, ac5, ako, Bool.or_eq_true, Bool.and_eq_true, decide_eq_true_eq, or_assoc]
theorem aik (s : Str) : uP s = some (ade s) := by
 unfold uP ade
 simp only [abu]
 simp only [qC, aec, ag0, cS, dL, oT, ahm, ajZ, ag9, aU, acL, acQ, acj, ahz, ajV, abu, ajT, aj5, ac9]
 cases hr : eL 1 16 s.length
 ·rfl
 ·rw [agr] at hr
  rw [cS, cS]
  unfold tS
  refine aeD (F := fun fu i => eZ fu s i) (g := fun r => some (r.all sL)) (fun fu => by rw [eZ, aN (zG (by omega))]; rfl) (fun fu i h ih => ?_) (by omega)
  rw [eZ, aM (lL h), aM (inr h), asW h, cG (by omega), ih, List.all_cons, abu, aoP]
  simp only [qC, aec, ag0, cS, dL, oT, ahm, ajZ, ag9, aU, acL, acQ, acj, ahz, ajV, abu, ajT, aj5, anu]
  simp only [Bool.cond_decide]; (repeat' split) <;> first | rfl | omega
end Md
end PX
