import Derived.Test.YtmcpanmcgpjfiaaGreatDoorMsgA
set_option linter.unusedVariables false
set_option linter.unusedSimpArgs false
namespace PX
open Go
namespace Md
theorem ahS (x b : Int) : lY x b = some (fE 0 b x) := by
 unfold lY fE
 simp only [vC, adH]
def aFV : Option Str → Str → Bool
 | none, _ => false
 | some k, s => Op.bytesLess s k || s == k
def wR : Option Str → List aG → Int
 | _, [] => 0
 | k, x :: r => cond (aer x.Key) (cond (decide (160 < x.Value.length)) 5 (cond (aFV k x.Key) 16 (wR (some x.Key) r))) 16
def wV (l : List aG) : Int := cond (decide (8 < l.length)) 5 (wR none l)
theorem cS {α : Type} (b : Bool) (x y : α) : some (cond b x y) = cond b (some x) (some y) := by cases b <;> rfl
theorem aek (l : List aG) : tS l = some (wV l) := by
 unfold tS wV
 rw [cS]
 by_cases hl : l.length > 8
 ·rw [aL (by simp; omega), aL (by simp; omega)]
 ·rw [aS (by simp; omega), aS (by simp; omega)]
  have := lR (n := l.length) (F := fun fu i (_ : Unit) => kY fu l l (l.length : Int) i) (G := fun i _ => some (wR (if i = 0 then none else some (l.getD (i - 1) default).Key) (l.drop i))) (fun _ _ => True)
   (fun fu s _ => by rw [kY, aS (aaL (by omega)), List.drop_length]; rfl)
   (fun fu i s h _ ih => by
    have ih := ih () trivial
    rw [kY, aL (hI h), aL (inr h), cI h, eK (anj _), cF (by omega), ih, List.drop_eq_getElem_cons h, wR, if_neg (by omega)]
    simp only [cS, lN, acJ, Nat.add_sub_cancel]
    rw [ajN h]
    congr 1
    have e : decide (160 < (l[i].Value.length : Int)) = decide (160 < l[i].Value.length) := by rw [Bool.eq_iff_iff]; simp; omega
    rw [e]
    congr 1
    by_cases hz : i = 0
    ·subst hz; rw [aS (by simp), if_pos rfl]; rfl
    ·have e2 : IntKind.wrap .i64 ((i : Int) - 1) = ((i - 1 : Nat) : Int) := by rw [w64 (by omega) (by omega)]; omega
     rw [aL (by simp; omega), e2, aL (inr (by omega)), Int.toNat_natCast, if_neg hz]; rfl)
   (by omega) () trivial
  simpa using this
theorem aiD (l : List aG) : rP l = some (wV l) := by
 unfold rP wV
 rw [cS]
 by_cases hl : l.length > 8
 ·rw [aL (by simp; omega), aL (by simp; omega)]
 ·rw [aS (by simp; omega), aS (by simp; omega)]
  have := lR (n := l.length) (F := fun fu i (_ : Unit) => iJ fu l i) (G := fun i _ => some (wR (if i = 0 then none else some (l.getD (i - 1) default).Key) (l.drop i))) (fun _ _ => True)
   (fun fu s _ => by rw [iJ, aS (aaL (by omega)), List.drop_length]; rfl)
   (fun fu i s h _ ih => by
    have ih := ih () trivial
    rw [iJ, aL (hI h), aL (inr h), cI h, eK (arH _), cF (by omega), ih, List.drop_eq_getElem_cons h, wR, if_neg (by omega)]
    simp only [cS, lN, acJ, Nat.add_sub_cancel]
    rw [ajN h]
    congr 1
    have e : decide (160 < (l[i].Value.length : Int)) = decide (160 < l[i].Value.length) := by rw [Bool.eq_iff_iff]; simp; omega
    rw [e, aL (inr h)]
    congr 1
    by_cases hz : i = 0
    ·subst hz; rw [aS (by simp), if_pos rfl]; rfl
    ·have e2 : IntKind.wrap .i64 ((i : Int) - 1) = ((i - 1 : Nat) : Int) := by rw [w64 (by omega) (by omega)]; omega
     rw [aL (by simp; omega), aL (inr h), e2, aL (inr (by omega)), Int.toNat_natCast, if_neg hz]; rfl)
   (by omega) () trivial
  simpa using this
def checkM (m : aC) : Int := cond (yT m.Topic) (cond (decide (256 < (m.Payload.length : Int))) 5 (cond (fE 0 2 m.Level) (cond (fE 0 9 m.Priority) (cond (fE 0 1099511627776 m.Expires)
 (cond (m.From == []) (cond (fE 0 1099511627776 m.Seq) (wV m.Props) 1) (cond (gS m.From) (cond (fE 0 1099511627776 m.Seq) (wV m.Props) 1) 11)) 1) 1) 14)) 12
theorem aaC (m : aC) (hm : m.From.length < 1000000000000000) : lU m = some (checkM m) := by
 simp only [lU, checkM, cS, aqy, ahS, adL _ hm, aek, lN, aai, acC, eS, eW, iH, adz, ae1, acJ, aY, yW, wI, zH, adH, afg, vC, afd, afn]
theorem ad3 (m : aC) (hm : m.From.length < 1000000000000000) : hJ m = some (checkM m) := by
 simp only [hJ, oH, oK, kW, checkM, cS, ai2, xF _ hm, aiD, lN, aai, acC, eS, eW, iH, adz, ae1, acJ, aY, yW, wI, zH, adH, afg, vC, afd, afn, yC]
end Md
end PX
