import Derived.Test.YtojlmojebnlmdaaGreatDoorMsgA
set_option linter.unusedVariables false
set_option linter.unusedSimpArgs false
namespace PX
open Go
namespace Md
theorem aiP (x b : Int) : mV x b = some (hY 0 b x) := by
 unfold mV hY
 simp only [sQ, acy]
def avu : Option Str → Str → Bool
 | none, _ => false
 | some k, s => Op.bytesLess s k || s == k
def ab2 : Option Str → List aC → Int
 | _, [] => 0
 | k, x :: r => cond (ajS x.Key) (cond (decide (160 < x.Value.length)) 5 (cond (avu k x.Key) 16 (ab2 (some x.Key) r))) 16
def aca (l : List aC) : Int := cond (decide (8 < l.length)) 5 (ab2 none l)
theorem bT {α : Type} (b : Bool) (x y : α) : some (cond b x y) = cond b (some x) (some y) := by cases b <;> rfl
theorem afD (l : List aC) : n5 l = some (aca l) := by
 unfold n5 aca
 rw [bT]
 by_cases hl : l.length > 8
 ·rw [aQ (by simp; omega), aQ (by simp; omega)]
 ·rw [aW (by simp; omega), aW (by simp; omega)]
  have := kN (n := l.length) (F := fun fu i (_ : Unit) => hX fu l l (l.length : Int) i) (G := fun i _ => some (ab2 (if i = 0 then none else some (l.getD (i - 1) default).Key) (l.drop i))) (fun _ _ => True)
   (fun fu s _ => by rw [hX, aW (uU (by omega)), List.drop_length]; rfl)
   (fun fu i s h _ ih => by
    have ih := ih () trivial
    rw [hX, aQ (kP h), aQ (inr h), cP h, cK (ahU _), bY (by omega), ih, List.drop_eq_getElem_cons h, ab2, if_neg (by omega)]
    simp only [bT, jE, aa2, Nat.add_sub_cancel]
    rw [aeS h]
    congr 1
    have e : decide (160 < (l[i].Value.length : Int)) = decide (160 < l[i].Value.length) := by rw [Bool.eq_iff_iff]; simp; omega
    rw [e]
    congr 1
    by_cases hz : i = 0
    ·subst hz; rw [aW (by simp), if_pos rfl]; rfl
    ·have e2 : IntKind.wrap .i64 ((i : Int) - 1) = ((i - 1 : Nat) : Int) := by rw [w64 (by omega) (by omega)]; omega
     rw [aQ (by simp; omega), e2, aQ (inr (by omega)), Int.toNat_natCast, if_neg hz]; rfl)
   (by omega) () trivial
  simpa using this
theorem ajh (l : List aC) : mR l = some (aca l) := by
 unfold mR aca
 rw [bT]
 by_cases hl : l.length > 8
 ·rw [aQ (by simp; omega), aQ (by simp; omega)]
 ·rw [aW (by simp; omega), aW (by simp; omega)]
  have := kN (n := l.length) (F := fun fu i (_ : Unit) => eN fu l i) (G := fun i _ => some (ab2 (if i = 0 then none else some (l.getD (i - 1) default).Key) (l.drop i))) (fun _ _ => True)
   (fun fu s _ => by rw [eN, aW (uU (by omega)), List.drop_length]; rfl)
   (fun fu i s h _ ih => by
    have ih := ih () trivial
    rw [eN, aQ (kP h), aQ (inr h), cP h, cK (alI _), bY (by omega), ih, List.drop_eq_getElem_cons h, ab2, if_neg (by omega)]
    simp only [bT, jE, aa2, Nat.add_sub_cancel]
    rw [aeS h]
    congr 1
    have e : decide (160 < (l[i].Value.length : Int)) = decide (160 < l[i].Value.length) := by rw [Bool.eq_iff_iff]; simp; omega
    rw [e, aQ (inr h)]
    congr 1
    by_cases hz : i = 0
    ·subst hz; rw [aW (by simp), if_pos rfl]; rfl
    ·have e2 : IntKind.wrap .i64 ((i : Int) - 1) = ((i - 1 : Nat) : Int) := by rw [w64 (by omega) (by omega)]; omega
     rw [aQ (by simp; omega), aQ (inr h), e2, aQ (inr (by omega)), Int.toNat_natCast, if_neg hz]; rfl)
   (by omega) () trivial
  simpa using this
def oN (m : aA) : Int := cond (aeb m.Topic) (cond (decide (256 < (m.Payload.length : Int))) 5 (cond (hY 0 2 m.Level) (cond (hY 0 9 m.Priority) (cond (hY 0 1099511627776 m.Expires)
 (cond (m.From == []) (cond (hY 0 1099511627776 m.Seq) (aca m.Props) 1) (cond (o7 m.From) (cond (hY 0 1099511627776 m.Seq) (aca m.Props) 1) 11)) 1) 1) 14)) 12
theorem tW (m : aA) (hm : m.From.length < 1000000000000000) : kL m = some (oN m) := by
 simp only [kL, oN, bT, anz, aiP, aeO _ hm, afD, jE, xI, aaM, gU, mX, fN, acV, aeR, aa2, cW, wN, uA, wB, acy, aeI, sQ, aeK, aeH]
theorem aaa (m : aA) (hm : m.From.length < 1000000000000000) : iN m = some (oN m) := by
 simp only [iN, m9, mY, jY, oN, bT, akp, w3 _ hm, ajh, jE, xI, aaM, gU, mX, fN, acV, aeR, aa2, cW, wN, uA, wB, acy, aeI, sQ, aeK, aeH, tX]
end Md
end PX
