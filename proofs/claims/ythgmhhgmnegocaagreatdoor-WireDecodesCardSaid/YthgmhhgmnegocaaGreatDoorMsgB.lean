import Derived.Test.YthgmhhgmnegocaaGreatDoorMsgA
set_option linter.unusedVariables false
set_option linter.unusedSimpArgs false
namespace PX
open Go
namespace Md
theorem ahy (x b : Int) : qE x b = some (rngB 0 b x) := by
 unfold qE rngB
 simp only [vH, aaL]
def aDo : Option Str → Str → Bool
 | none, _ => false
 | some k, s => Op.bytesLess s k || s == k
def vR : Option Str → List aC → Int
 | _, [] => 0
 | k, x :: r => cond (adq x.Key) (cond (decide (160 < x.Value.length)) 5 (cond (aDo k x.Key) 16 (vR (some x.Key) r))) 16
def vT (l : List aC) : Int := cond (decide (8 < l.length)) 5 (vR none l)
theorem dJ {α : Type} (b : Bool) (x y : α) : some (cond b x y) = cond b (some x) (some y) := by cases b <;> rfl
theorem adK (l : List aC) : sG l = some (vT l) := by
 unfold sG vT
 rw [dJ]
 by_cases hl : l.length > 8
 ·rw [aL (by simp; omega), aL (by simp; omega)]
 ·rw [aQ (by simp; omega), aQ (by simp; omega)]
  have := aca (n := l.length) (F := fun fu i (_ : Unit) => kI fu l l (l.length : Int) i) (G := fun i _ => some (vR (if i = 0 then none else some (l.getD (i - 1) default).Key) (l.drop i))) (fun _ _ => True)
   (fun fu s _ => by rw [kI, aQ (pV (by omega)), List.drop_length]; rfl)
   (fun fu i s h _ ih => by
    have ih := ih () trivial
    rw [kI, aL (jC h), aL (inr h), cN h, cZ (amq _), cD (by omega), ih, List.drop_eq_getElem_cons h, vR, if_neg (by omega)]
    simp only [dJ, fE, sQ, Nat.add_sub_cancel]
    rw [ajg h]
    congr 1
    have e : decide (160 < (l[i].Value.length : Int)) = decide (160 < l[i].Value.length) := by rw [Bool.eq_iff_iff]; simp; omega
    rw [e]
    congr 1
    by_cases hz : i = 0
    ·subst hz; rw [aQ (by simp), if_pos rfl]; rfl
    ·have e2 : IntKind.wrap .i64 ((i : Int) - 1) = ((i - 1 : Nat) : Int) := by rw [w64 (by omega) (by omega)]; omega
     rw [aL (by simp; omega), e2, aL (inr (by omega)), Int.toNat_natCast, if_neg hz]; rfl)
   (by omega) () trivial
  simpa using this
theorem ai4 (l : List aC) : pZ l = some (vT l) := by
 unfold pZ vT
 rw [dJ]
 by_cases hl : l.length > 8
 ·rw [aL (by simp; omega), aL (by simp; omega)]
 ·rw [aQ (by simp; omega), aQ (by simp; omega)]
  have := aca (n := l.length) (F := fun fu i (_ : Unit) => hX fu l i) (G := fun i _ => some (vR (if i = 0 then none else some (l.getD (i - 1) default).Key) (l.drop i))) (fun _ _ => True)
   (fun fu s _ => by rw [hX, aQ (pV (by omega)), List.drop_length]; rfl)
   (fun fu i s h _ ih => by
    have ih := ih () trivial
    rw [hX, aL (jC h), aL (inr h), cN h, cZ (aq2 _), cD (by omega), ih, List.drop_eq_getElem_cons h, vR, if_neg (by omega)]
    simp only [dJ, fE, sQ, Nat.add_sub_cancel]
    rw [ajg h]
    congr 1
    have e : decide (160 < (l[i].Value.length : Int)) = decide (160 < l[i].Value.length) := by rw [Bool.eq_iff_iff]; simp; omega
    rw [e, aL (inr h)]
    congr 1
    by_cases hz : i = 0
    ·subst hz; rw [aQ (by simp), if_pos rfl]; rfl
    ·have e2 : IntKind.wrap .i64 ((i : Int) - 1) = ((i - 1 : Nat) : Int) := by rw [w64 (by omega) (by omega)]; omega
     rw [aL (by simp; omega), aL (inr h), e2, aL (inr (by omega)), Int.toNat_natCast, if_neg hz]; rfl)
   (by omega) () trivial
  simpa using this
def j5 (m : aF) : Int := cond (xG m.Topic) (cond (decide (256 < (m.Payload.length : Int))) 5 (cond (rngB 0 2 m.Level) (cond (rngB 0 9 m.Priority) (cond (rngB 0 1099511627776 m.Expires)
 (cond (m.From == []) (cond (rngB 0 1099511627776 m.Seq) (vT m.Props) 1) (cond (mL m.From) (cond (rngB 0 1099511627776 m.Seq) (vT m.Props) 1) 11)) 1) 1) 14)) 12
theorem aem (m : aF) (hm : m.From.length < 1000000000000000) : jI m = some (j5 m) := by
 simp only [jI, j5, dJ, apo, ahy, af4 _ hm, adK, fE, abR, afh, gZ, jB, eV, acK, ae0, sQ, aU, xH, nB, aao, aaL, aeH, vH, afe, ae3]
theorem ai2 (m : aF) (hm : m.From.length < 1000000000000000) : jS m = some (j5 m) := by
 simp only [jS, nC, mR, kC, j5, dJ, ais, zH _ hm, ai4, fE, abR, afh, gZ, jB, eV, acK, ae0, sQ, aU, xH, nB, aao, aaL, aeH, vH, afe, ae3, uW]
end Md
end PX
