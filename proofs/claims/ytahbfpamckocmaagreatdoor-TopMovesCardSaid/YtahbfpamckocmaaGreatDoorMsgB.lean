import Derived.Test.YtahbfpamckocmaaGreatDoorMsgA
set_option linter.unusedVariables false
set_option linter.unusedSimpArgs false
namespace PX
open Go
namespace Md
theorem adA (x b : Int) : jB x b = some (eL 0 b x) := by
 unfold jB eL
 simp only [abu, ahz]
def axW : Option Str → Str → Bool
 | none, _ => false
 | some k, s => Op.bytesLess s k || s == k
def uE : Option Str → List aD → Int
 | _, [] => 0
 | k, x :: r => cond (ade x.Key) (cond (decide (160 < x.Value.length)) 5 (cond (axW k x.Key) 16 (uE (some x.Key) r))) 16
def uO (l : List aD) : Int := cond (decide (8 < l.length)) 5 (uE none l)
theorem gL {α : Type} (b : Bool) (x y : α) : some (cond b x y) = cond b (some x) (some y) := by cases b <;> rfl
theorem aaS (l : List aD) : o5 l = some (uO l) := by
 unfold o5 uO
 rw [gL]
 by_cases hl : l.length > 8
 ·rw [aM (by simp; omega), aM (by simp; omega)]
 ·rw [aN (by simp; omega), aN (by simp; omega)]
  have := tE (n := l.length) (F := fun fu i (_ : Unit) => iU fu l l (l.length : Int) i) (G := fun i _ => some (uE (if i = 0 then none else some (l.getD (i - 1) default).Key) (l.drop i))) (fun _ _ => True)
   (fun fu s _ => by rw [iU, aN (zG (by omega)), List.drop_length]; rfl)
   (fun fu i s h _ ih => by
    have ih := ih () trivial
    rw [iU, aM (lL h), aM (inr h), dV h, iC (aik _), cG (by omega), ih, List.drop_eq_getElem_cons h, uE, if_neg (by omega)]
    simp only [gL, qC, ag9, Nat.add_sub_cancel]
    rw [aib h]
    congr 1
    have e : decide (160 < (l[i].Value.length : Int)) = decide (160 < l[i].Value.length) := by rw [Bool.eq_iff_iff]; simp; omega
    rw [e]
    congr 1
    by_cases hz : i = 0
    ·subst hz; rw [aN (by simp), if_pos rfl]; rfl
    ·have e2 : IntKind.wrap .i64 ((i : Int) - 1) = ((i - 1 : Nat) : Int) := by rw [w64 (by omega) (by omega)]; omega
     rw [aM (by simp; omega), e2, aM (inr (by omega)), Int.toNat_natCast, if_neg hz]; rfl)
   (by omega) () trivial
  simpa using this
def checkM (m : aA) : Int := cond (sR m.Topic) (cond (decide (256 < (m.Payload.length : Int))) 5 (cond (eL 0 2 m.Level) (cond (eL 0 9 m.Priority) (cond (eL 0 1099511627776 m.Expires)
 (cond (m.From == []) (cond (eL 0 1099511627776 m.Seq) (uO m.Props) 1) (cond (fE m.From) (cond (eL 0 1099511627776 m.Seq) (uO m.Props) 1) 11)) 1) 1) 14)) 12
theorem qR (m : aA) (hm : m.From.length < 1000000000000000) : hI m = some (checkM m) := by
 simp only [hI, checkM, gL, akx, adA, ab6 _ hm, aaS, qC, aec, ag0, cS, dL, oT, ahm, ajZ, ag9, aU, acL, acQ, acj, ahz, ajV, abu, ajT, aj5]
end Md
end PX
