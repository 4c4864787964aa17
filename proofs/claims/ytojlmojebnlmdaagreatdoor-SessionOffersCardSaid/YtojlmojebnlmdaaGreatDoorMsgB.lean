import Derived.Test.YtojlmojebnlmdaaGreatDoorMsgA
set_option linter.unusedVariables false
set_option linter.unusedSimpArgs false
namespace PX
open Go
namespace Md
def aup : Option Str → Str → Bool
 | none, _ => false
 | some k, s => Op.bytesLess s k || s == k
def afV : Option Str → List aD → Int
 | _, [] => 0
 | k, x :: r => cond (amU x.Key) (cond (decide (160 < x.Value.length)) 5 (cond (aup k x.Key) 16 (afV (some x.Key) r))) 16
def abj (l : List aD) : Int := cond (decide (8 < l.length)) 5 (afV none l)
theorem eU {α : Type} (b : Bool) (x y : α) : some (cond b x y) = cond b (some x) (some y) := by cases b <;> rfl
theorem ajS (l : List aD) : l5 l = some (abj l) := by
 unfold l5 abj
 rw [eU]
 by_cases hl : l.length > 8
 ·rw [aR (by simp; omega), aR (by simp; omega)]
 ·rw [bD (by simp; omega), bD (by simp; omega)]
  have := pH (n := l.length) (F := fun fu i (_ : Unit) => eM fu l i) (G := fun i _ => some (afV (if i = 0 then none else some (l.getD (i - 1) default).Key) (l.drop i))) (fun _ _ => True)
   (fun fu s _ => by rw [eM, bD (xC (by omega)), List.drop_length]; rfl)
   (fun fu i s h _ ih => by
    have ih := ih () trivial
    rw [eM, aR (nK h), aR (inr h), dD h, eE (alg _), dA (by omega), ih, List.drop_eq_getElem_cons h, afV, if_neg (by omega)]
    simp only [eU, uG, aiE, Nat.add_sub_cancel]
    rw [akq h]
    congr 1
    have e : decide (160 < (l[i].Value.length : Int)) = decide (160 < l[i].Value.length) := by rw [Bool.eq_iff_iff]; simp; omega
    rw [e, aR (inr h)]
    congr 1
    by_cases hz : i = 0
    ·subst hz; rw [bD (by simp), if_pos rfl]; rfl
    ·have e2 : IntKind.wrap .i64 ((i : Int) - 1) = ((i - 1 : Nat) : Int) := by rw [w64 (by omega) (by omega)]; omega
     rw [aR (by simp; omega), aR (inr h), e2, aR (inr (by omega)), Int.toNat_natCast, if_neg hz]; rfl)
   (by omega) () trivial
  simpa using this
def m7 (m : aA) : Int := cond (ajA m.Topic) (cond (decide (256 < (m.Payload.length : Int))) 5 (cond (jI 0 2 m.Level) (cond (jI 0 9 m.Priority) (cond (jI 0 1099511627776 m.Expires)
 (cond (m.From == []) (cond (jI 0 1099511627776 m.Seq) (abj m.Props) 1) (cond (uK m.From) (cond (jI 0 1099511627776 m.Seq) (abj m.Props) 1) 11)) 1) 1) 14)) 12
theorem tQ (m : aA) (hm : m.From.length < 1000000000000000) : gI m = some (m7 m) := by
 simp only [gI, mH, mI, jQ, m7, eU, ajM, wA _ hm, ajS, uG, afX, aix, j1, nL, n8, aiB, alr, aiE, dC, aft, acv, ag7, ak3, alf, aeK, akF, akR, afy]
end Md
end PX
