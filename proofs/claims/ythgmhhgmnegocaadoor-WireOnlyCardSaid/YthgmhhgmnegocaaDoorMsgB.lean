import Derived.Test.YthgmhhgmnegocaaDoorMsgA
set_option linter.unusedVariables false
set_option linter.unusedSimpArgs false
namespace PX
open Go
namespace Md
theorem ab3 (x b : Int) : lK x b = some (rngB 0 b x) := by
 unfold lK rngB
 simp only [zN, ady]
def aso : Option Str → Str → Bool
 | none, _ => false
 | some k, s => Op.bytesLess s k || s == k
def rE : Option Str → List aB → Int
 | _, [] => 0
 | k, x :: r => cond (abA x.Key) (cond (decide (160 < x.Value.length)) 5 (cond (aso k x.Key) 16 (rE (some x.Key) r))) 16
def rS (l : List aB) : Int := cond (decide (8 < l.length)) 5 (rE none l)
theorem fZ {α : Type} (b : Bool) (x y : α) : some (cond b x y) = cond b (some x) (some y) := by cases b <;> rfl
theorem yZ (l : List aB) : mJ l = some (rS l) := by
 unfold mJ rS
 rw [fZ]
 by_cases hl : l.length > 8
 ·rw [aK (by simp; omega), aK (by simp; omega)]
 ·rw [aO (by simp; omega), aO (by simp; omega)]
  have := zW (n := l.length) (F := fun fu i (_ : Unit) => gR fu l l (l.length : Int) i) (G := fun i _ => some (rE (if i = 0 then none else some (l.getD (i - 1) default).Key) (l.drop i))) (fun _ _ => True)
   (fun fu s _ => by rw [gR, aO (sB (by omega)), List.drop_length]; rfl)
   (fun fu i s h _ ih => by
    have ih := ih () trivial
    rw [gR, aK (mG h), aK (inr h), cS h, fW (agx _), cQ (by omega), ih, List.drop_eq_getElem_cons h, rE, if_neg (by omega)]
    simp only [fZ, gX, adJ, Nat.add_sub_cancel]
    rw [agr h]
    congr 1
    have e : decide (160 < (l[i].Value.length : Int)) = decide (160 < l[i].Value.length) := by rw [Bool.eq_iff_iff]; simp; omega
    rw [e]
    congr 1
    by_cases hz : i = 0
    ·subst hz; rw [aO (by simp), if_pos rfl]; rfl
    ·have e2 : IntKind.wrap .i64 ((i : Int) - 1) = ((i - 1 : Nat) : Int) := by rw [w64 (by omega) (by omega)]; omega
     rw [aK (by simp; omega), e2, aK (inr (by omega)), Int.toNat_natCast, if_neg hz]; rfl)
   (by omega) () trivial
  simpa using this
def iJ (m : aC) : Int := cond (tD m.Topic) (cond (decide (256 < (m.Payload.length : Int))) 5 (cond (rngB 0 2 m.Level) (cond (rngB 0 9 m.Priority) (cond (rngB 0 1099511627776 m.Expires)
 (cond (m.From == []) (cond (rngB 0 1099511627776 m.Seq) (rS m.Props) 1) (cond (lB m.From) (cond (rngB 0 1099511627776 m.Seq) (rS m.Props) 1) 11)) 1) 1) 14)) 12
theorem yV (m : aC) (hm : m.From.length < 1000000000000000) : fU m = some (iJ m) := by
 simp only [fU, iJ, fZ, ahZ, ab3, aaY _ hm, yZ, gX, afV, ahE, fA, fE, eU, afl, ahP, adJ, aX, abf, pO, adO, ady, ahK, zN, ahQ, ahM]
end Md
end PX
