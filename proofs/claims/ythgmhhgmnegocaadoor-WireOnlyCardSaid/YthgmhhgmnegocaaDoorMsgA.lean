import Derived.Test.YthgmhhgmnegocaaDoorTopicC
import Derived.Test.YthgmhhgmnegocaaDoorPXc
set_option linter.unusedVariables false
set_option linter.unusedSimpArgs false
namespace PX
open Go
namespace Md
theorem aiJ (x y : aB) : (x.Key == y.Key && (x.Value == y.Value && true)) = decide (x = y) := by
 cases x; cases y; rw [Bool.eq_iff_iff]; simp
theorem sI {α : Type} {a b : List α} (h : a.length = b.length) : ((a.length : Int) == (b.length : Int)) = true := by rw [h]; simp
theorem sK {α : Type} {a b : List α} (h : ¬ a.length = b.length) : ((a.length : Int) == (b.length : Int)) = false := by simp; omega
theorem tG (a b : aC) (ha : a.Props.length < 1000000000000000) : kE a b = some (decide (a = b)) := by
 have hj : a.Props.length = b.Props.length → pK a b = some (decide (a.Props = b.Props)) := by
  intro hl
  exact nT (F := fun fu i => iR fu a.Props (a.Props.length : Int) i b) hl
   (fun fu => by rw [iR, aO (sB (by omega))])
   (fun fu i h h' => by rw [iR, aK (mG h), aK (inr h), aK (inr h'), cS h, cS h', cQ (by omega), gX, aiJ]) (by omega)
 unfold kE
 obtain ⟨a1, a2, a3, a4, a5, a6, a7, a8, a9⟩ := a
 obtain ⟨b1, b2, b3, b4, b5, b6, b7, b8, b9⟩ := b
 simp only at hj ha ⊢
 simp only [aC.mk.injEq]
 by_cases hl : a9.length = b9.length
 ·rw [hj hl]
  simp only [gX, eU, sI hl, fA, uS, abu]
 ·simp only [gX, eU, sK hl, fE, uS, aoB]
  symm
  simp; rintro - - - - - - - - rfl; exact hl rfl
def abA (s : Str) : Bool := rngB 1 16 s.length && s.all pI
theorem amb (b : UInt8) : pI b = decide ((97 ≤ b.toNat ∧ b.toNat ≤ 122) ∨ (48 ≤ b.toNat ∧ b.toNat ≤ 57) ∨ b.toNat = 45) := by
 rw [Bool.eq_iff_iff]; simp only [pI, abL, ah8, Bool.or_eq_true, Bool.and_eq_true, decide_eq_true_eq, or_assoc]
theorem agx (s : Str) : rM s = some (abA s) := by
 unfold rM abA
 simp only [zN]
 simp only [gX, afV, ahE, fA, fE, eU, afl, ahP, adJ, aX, abf, pO, adO, ady, ahK, zN, ahQ, ahM, amD]
 cases hr : rngB 1 16 s.length
 ·rfl
 ·rw [oA] at hr
  rw [fA, fA]
  unfold qO
  refine aac (F := fun fu i => dX fu s i) (g := fun r => some (r.all pI)) (fun fu => by rw [dX, aO (sB (by omega))]; rfl) (fun fu i h ih => ?_) (by omega)
  rw [dX, aK (mG h), aK (inr h), apv h, cQ (by omega), ih, List.all_cons, zN, amb]
  simp only [gX, afV, ahE, fA, fE, eU, afl, ahP, adJ, aX, abf, pO, adO, ady, ahK, zN, ahQ, ahM, uS]
  simp only [Bool.cond_decide]; (repeat' split) <;> first | rfl | omega
end Md
end PX
