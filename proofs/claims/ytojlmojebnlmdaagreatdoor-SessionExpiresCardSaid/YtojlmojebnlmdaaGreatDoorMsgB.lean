import Derived.Test.YtojlmojebnlmdaaGreatDoorMsgA
set_option linter.unusedVariables false
set_option linter.unusedSimpArgs false
namespace PX
open Go
namespace Md
def as0 : Option Str → Str → Bool
 | none, _ => false
 | some k, s => Op.bytesLess s k || s == k
def afY : Option Str → List aD → Int
 | _, [] => 0
 | k, x :: r => cond (am1 x.Key) (cond (decide (160 < x.Value.length)) 5 (cond (as0 k x.Key) 16 (afY (some x.Key) r))) 16
def aaX (l : List aD) : Int := cond (decide (8 < l.length)) 5 (afY none l)
theorem eR {α : Type} (b : Bool) (x y : α) : some (cond b x y) = cond b (some x) (some y) := by cases b <;> rfl
theorem aip (l : List aD) : lM l = some (aaX l) := by
 unfold lM aaX
 rw [eR]
 by_cases hl : l.length > 8
 ·rw [aT (by simp; omega), aT (by simp; omega)]
 ·rw [bE (by simp; omega), bE (by simp; omega)]
  have := oM (n := l.length) (F := fun fu i (_ : Unit) => eH fu l i) (G := fun i _ => some (afY (if i = 0 then none else some (l.getD (i - 1) default).Key) (l.drop i))) (fun _ _ => True)
   (fun fu s _ => by rw [eH, bE (v8 (by omega)), List.drop_length]; rfl)
   (fun fu i s h _ ih => by
    have ih := ih () trivial
    rw [eH, aT (n4 h), aT (inr h), fA h, gW (ajY _), dC (by omega), ih, List.drop_eq_getElem_cons h, afY, if_neg (by omega)]
    simp only [eR, sY, ahy, Nat.add_sub_cancel]
    rw [ajl h]
    congr 1
    have e : decide (160 < (l[i].Value.length : Int)) = decide (160 < l[i].Value.length) := by rw [Bool.eq_iff_iff]; simp; omega
    rw [e, aT (inr h)]
    congr 1
    by_cases hz : i = 0
    ·subst hz; rw [bE (by simp), if_pos rfl]; rfl
    ·have e2 : IntKind.wrap .i64 ((i : Int) - 1) = ((i - 1 : Nat) : Int) := by rw [w64 (by omega) (by omega)]; omega
     rw [aT (by simp; omega), aT (inr h), e2, aT (inr (by omega)), Int.toNat_natCast, if_neg hz]; rfl)
   (by omega) () trivial
  simpa using this
def nM (m : aA) : Int := cond (aiA m.Topic) (cond (decide (256 < (m.Payload.length : Int))) 5 (cond (gJ 0 2 m.Level) (cond (gJ 0 9 m.Priority) (cond (gJ 0 1099511627776 m.Expires)
 (cond (m.From == []) (cond (gJ 0 1099511627776 m.Seq) (aaX m.Props) 1) (cond (tD m.From) (cond (gJ 0 1099511627776 m.Seq) (aaX m.Props) 1) 11)) 1) 1) 14)) 12
theorem xU (m : aA) (hm : m.From.length < 1000000000000000) : iE m = some (nM m) := by
 simp only [iE, l1, lY, jD, nM, eR, aic, uW _ hm, aip, sY, afz, ahI, j4, oC, oD, ahw, ajP, ahy, cL, aeH, abu, agJ, akp, akv, abt, ajK, aka, aeA]
end Md
end PX
