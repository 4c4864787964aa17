import Derived.Test.YtojlmojebnlmdaaGreatDoorMsgA
set_option linter.unusedVariables false
set_option linter.unusedSimpArgs false
namespace PX
open Go
namespace Md
def awF : Option Str → Str → Bool
 | none, _ => false
 | some k, s => Op.bytesLess s k || s == k
def agX : Option Str → List aE → Int
 | _, [] => 0
 | k, x :: r => cond (ao7 x.Key) (cond (decide (160 < x.Value.length)) 5 (cond (awF k x.Key) 16 (agX (some x.Key) r))) 16
def ab7 (l : List aE) : Int := cond (decide (8 < l.length)) 5 (agX none l)
theorem eH {α : Type} (b : Bool) (x y : α) : some (cond b x y) = cond b (some x) (some y) := by cases b <;> rfl
theorem ajs (l : List aE) : mW l = some (ab7 l) := by
 unfold mW ab7
 rw [eH]
 by_cases hl : l.length > 8
 ·rw [aO (by simp; omega), aO (by simp; omega)]
 ·rw [aT (by simp; omega), aT (by simp; omega)]
  have := o0 (n := l.length) (F := fun fu i (_ : Unit) => eU fu l i) (G := fun i _ => some (agX (if i = 0 then none else some (l.getD (i - 1) default).Key) (l.drop i))) (fun _ _ => True)
   (fun fu s _ => by rw [eU, aT (tB (by omega)), List.drop_length]; rfl)
   (fun fu i s h _ ih => by
    have ih := ih () trivial
    rw [eU, aO (jX h), aO (inr h), cE h, cV (amm _), bU (by omega), ih, List.drop_eq_getElem_cons h, agX, if_neg (by omega)]
    simp only [eH, rS, ajm, Nat.add_sub_cancel]
    rw [aij h]
    congr 1
    have e : decide (160 < (l[i].Value.length : Int)) = decide (160 < l[i].Value.length) := by rw [Bool.eq_iff_iff]; simp; omega
    rw [e, aO (inr h)]
    congr 1
    by_cases hz : i = 0
    ·subst hz; rw [aT (by simp), if_pos rfl]; rfl
    ·have e2 : IntKind.wrap .i64 ((i : Int) - 1) = ((i - 1 : Nat) : Int) := by rw [w64 (by omega) (by omega)]; omega
     rw [aO (by simp; omega), aO (inr h), e2, aO (inr (by omega)), Int.toNat_natCast, if_neg hz]; rfl)
   (by omega) () trivial
  simpa using this
def oL (m : aA) : Int := cond (ake m.Topic) (cond (decide (256 < (m.Payload.length : Int))) 5 (cond (j1 0 2 m.Level) (cond (j1 0 9 m.Priority) (cond (j1 0 1099511627776 m.Expires)
 (cond (m.From == []) (cond (j1 0 1099511627776 m.Seq) (ab7 m.Props) 1) (cond (rH m.From) (cond (j1 0 1099511627776 m.Seq) (ab7 m.Props) 1) 11)) 1) 1) 14)) 12
theorem zR (m : aA) (hm : m.From.length < 1000000000000000) : jE m = some (oL m) := by
 simp only [jE, nB, nD, j5, oL, eH, aj4, w5 _ hm, ajs, rS, agG, aji, jU, lA, oQ, aje, al7, ajm, bY, agh, ac8, afi, alB, al9, afg, amt, alz, acN]
end Md
end PX
