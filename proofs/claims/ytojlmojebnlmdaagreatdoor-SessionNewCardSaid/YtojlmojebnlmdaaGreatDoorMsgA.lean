import Derived.Test.YtojlmojebnlmdaaGreatDoorTopicC
import Derived.Test.YtojlmojebnlmdaaGreatDoorPXd
set_option linter.unusedVariables false
set_option linter.unusedSimpArgs false
namespace PX
open Go
namespace Md
theorem an3 (x y : aG) : (x.Key == y.Key && (x.Value == y.Value && true)) = decide (x = y) := by
 cases x; cases y; rw [Bool.eq_iff_iff]; simp
theorem afi {α : Type} {a b : List α} (h : a.length = b.length) : ((a.length : Int) == (b.length : Int)) = true := by rw [h]; simp
theorem ae9 {α : Type} {a b : List α} (h : ¬ a.length = b.length) : ((a.length : Int) == (b.length : Int)) = false := by simp; omega
theorem ak7 (a b : aA) (ha : a.Props.length < 1000000000000000) : wP a b = some (decide (a = b)) := by
 have hj : a.Props.length = b.Props.length → vR a b = some (decide (a.Props = b.Props)) := by
  intro hl
  exact zD (F := fun fu i => l7 fu a.Props (a.Props.length : Int) i b) hl
   (fun fu => by rw [l7, aT (lU (by omega))])
   (fun fu i h h' => by rw [l7, aN (dU h), aN (inr h), aN (inr h'), bU h, bU h', bM (by omega), fE, an3]) (by omega)
 unfold wP
 obtain ⟨a1, a2, a3, a4, a5, a6, a7, a8, a9⟩ := a
 obtain ⟨b1, b2, b3, b4, b5, b6, b7, b8, b9⟩ := b
 simp only at hj ha ⊢
 simp only [aA.mk.injEq]
 by_cases hl : a9.length = b9.length
 ·rw [hj hl]
  simp only [fE, dG, afi hl, cH, aca, ajZ]
 ·simp only [fE, dG, ae9 hl, dB, aca, av1]
  symm
  simp; rintro - - - - - - - - rfl; exact hl rfl
theorem anG (a b : List aG) (ha : a.length < 1000000000000000) : lE a b = some (decide (a = b)) := by
 unfold lE
 by_cases hl : a.length = b.length
 ·rw [dG, aN (afi hl)]
  exact zD (F := fun fu i => e9 fu a b i) hl
   (fun fu => by rw [e9, aT (lU (by omega))])
   (fun fu i h h' => by rw [e9, aN (dU h), aN (inr h), aN (inr h'), bU h, bU h', bM (by omega), fE, an3]) (by omega)
 ·rw [dG, aT (ae9 hl)]
  symm; simp; rintro rfl; exact hl rfl
theorem n6 (a b : aA) (ha : a.Props.length < 1000000000000000) : fA a b = some (decide (a = b)) := by
 unfold fA
 obtain ⟨a1, a2, a3, a4, a5, a6, a7, a8, a9⟩ := a
 obtain ⟨b1, b2, b3, b4, b5, b6, b7, b8, b9⟩ := b
 simp only at ha ⊢
 simp only [aA.mk.injEq, anG a9 b9 ha, qN, aca, ajZ]
def an0 (s : Str) : Bool := dL 1 16 s.length && s.all sQ
theorem amk (b : UInt8) : sQ b = decide ((97 ≤ b.toNat ∧ b.toNat ≤ 122) ∨ (48 ≤ b.toNat ∧ b.toNat ≤ 57) ∨ b.toNat = 45) := by
 rw [Bool.eq_iff_iff]; simp only [sQ, aa8, ahZ, Bool.or_eq_true, Bool.and_eq_true, decide_eq_true_eq, or_assoc]
theorem alW (s : Str) : xZ s = some (an0 s) := by
 unfold xZ an0
 simp only [uV]
 simp only [fE, abH, adK, cH, dB, dG, agB, aiy, xC, bB, aa5, qN, aa7, adZ, aiE, uV, aiL, aiD, qQ]
 cases hr : dL 1 16 s.length
 ·rfl
 ·rw [agC] at hr
  rw [cH, cH]
  unfold wS
  refine mZ (F := fun fu i => eV fu s i) (g := fun r => some (r.all sQ)) (fun fu => by rw [eV, aT (lU (by omega))]; rfl) (fun fu i h ih => ?_) (by omega)
  rw [eV, aN (dU h), aN (inr h), afH h, bM (by omega), ih, List.all_cons, uV, amk]
  simp only [fE, abH, adK, cH, dB, dG, agB, aiy, xC, bB, aa5, qN, aa7, adZ, aiE, uV, aiL, aiD, aca]
  simp only [Bool.cond_decide]; (repeat' split) <;> first | rfl | omega
theorem arl (s : Str) : sV s = some (an0 s) := by
 unfold sV an0
 simp only [uV]
 simp only [fE, abH, adK, cH, dB, dG, agB, aiy, xC, bB, aa5, qN, aa7, adZ, aiE, uV, aiL, aiD, qQ]
 cases hr : dL 1 16 s.length
 ·rfl
 ·rw [agC] at hr
  rw [cH, cH]
  unfold sK
  refine mZ (F := fun fu i => dF fu s i) (g := fun r => some (r.all sQ)) (fun fu => by rw [dF, aT (lU (by omega))]; rfl) (fun fu i h ih => ?_) (by omega)
  rw [dF, aN (dU h), aN (inr h), afH h, bM (by omega), ih, List.all_cons, uV, amk]
  simp only [fE, abH, adK, cH, dB, dG, agB, aiy, xC, bB, aa5, qN, aa7, adZ, aiE, uV, aiL, aiD, aca]
  simp only [Bool.cond_decide]; (repeat' split) <;> first | rfl | omega
end Md
end PX
