import Derived.Test.YtmcpanmcgpjfiaaGreatDoorMsgA
set_option linter.unusedVariables false
set_option linter.unusedSimpArgs false
namespace PX
open Go
namespace Md
theorem amP (x b : Int) : oB x b = some (dG 0 b x) := by
 unfold oB dG
 simp only [wF, agx]
def aDw : Option Str → Str → Bool
 | none, _ => false
 | some k, s => Op.bytesLess s k || s == k
def aal : Option Str → List aG → Int
 | _, [] => 0
 | k, x :: r => cond (ahI x.Key) (cond (decide (160 < x.Value.length)) 5 (cond (aDw k x.Key) 16 (aal (some x.Key) r))) 16
def yG (l : List aG) : Int := cond (decide (8 < l.length)) 5 (aal none l)
theorem cQ {α : Type} (b : Bool) (x y : α) : some (cond b x y) = cond b (some x) (some y) := by cases b <;> rfl
theorem ajC (l : List aG) : sC l = some (yG l) := by
 unfold sC yG
 rw [cQ]
 by_cases hl : l.length > 8
 ·rw [aO (by simp; omega), aO (by simp; omega)]
 ·rw [aY (by simp; omega), aY (by simp; omega)]
  have := jG (n := l.length) (F := fun fu i (_ : Unit) => j8 fu l l (l.length : Int) i) (G := fun i _ => some (aal (if i = 0 then none else some (l.getD (i - 1) default).Key) (l.drop i))) (fun _ _ => True)
   (fun fu s _ => by rw [j8, aY (xD (by omega)), List.drop_length]; rfl)
   (fun fu i s h _ ih => by
    have ih := ih () trivial
    rw [j8, aO (eM h), aO (inr h), bZ h, dY (alI _), bW (by omega), ih, List.drop_eq_getElem_cons h, aal, if_neg (by omega)]
    simp only [cQ, lA, aea, Nat.add_sub_cancel]
    rw [aiC h]
    congr 1
    have e : decide (160 < (l[i].Value.length : Int)) = decide (160 < l[i].Value.length) := by rw [Bool.eq_iff_iff]; simp; omega
    rw [e]
    congr 1
    by_cases hz : i = 0
    ·subst hz; rw [aY (by simp), if_pos rfl]; rfl
    ·have e2 : IntKind.wrap .i64 ((i : Int) - 1) = ((i - 1 : Nat) : Int) := by rw [w64 (by omega) (by omega)]; omega
     rw [aO (by simp; omega), e2, aO (inr (by omega)), Int.toNat_natCast, if_neg hz]; rfl)
   (by omega) () trivial
  simpa using this
theorem ant (l : List aG) : pS l = some (yG l) := by
 unfold pS yG
 rw [cQ]
 by_cases hl : l.length > 8
 ·rw [aO (by simp; omega), aO (by simp; omega)]
 ·rw [aY (by simp; omega), aY (by simp; omega)]
  have := jG (n := l.length) (F := fun fu i (_ : Unit) => gW fu l i) (G := fun i _ => some (aal (if i = 0 then none else some (l.getD (i - 1) default).Key) (l.drop i))) (fun _ _ => True)
   (fun fu s _ => by rw [gW, aY (xD (by omega)), List.drop_length]; rfl)
   (fun fu i s h _ ih => by
    have ih := ih () trivial
    rw [gW, aO (eM h), aO (inr h), bZ h, dY (aqB _), bW (by omega), ih, List.drop_eq_getElem_cons h, aal, if_neg (by omega)]
    simp only [cQ, lA, aea, Nat.add_sub_cancel]
    rw [aiC h]
    congr 1
    have e : decide (160 < (l[i].Value.length : Int)) = decide (160 < l[i].Value.length) := by rw [Bool.eq_iff_iff]; simp; omega
    rw [e, aO (inr h)]
    congr 1
    by_cases hz : i = 0
    ·subst hz; rw [aY (by simp), if_pos rfl]; rfl
    ·have e2 : IntKind.wrap .i64 ((i : Int) - 1) = ((i - 1 : Nat) : Int) := by rw [w64 (by omega) (by omega)]; omega
     rw [aO (by simp; omega), aO (inr h), e2, aO (inr (by omega)), Int.toNat_natCast, if_neg hz]; rfl)
   (by omega) () trivial
  simpa using this
def mT (m : aC) : Int := cond (abR m.Topic) (cond (decide (256 < (m.Payload.length : Int))) 5 (cond (dG 0 2 m.Level) (cond (dG 0 9 m.Priority) (cond (dG 0 1099511627776 m.Expires)
 (cond (m.From == []) (cond (dG 0 1099511627776 m.Seq) (yG m.Props) 1) (cond (hY m.From) (cond (dG 0 1099511627776 m.Seq) (yG m.Props) 1) 11)) 1) 1) 14)) 12
theorem zF (m : aC) (hm : m.From.length < 1000000000000000) : m7 m = some (mT m) := by
 simp only [m7, mT, cQ, aty, amP, acB _ hm, ajC, lA, abJ, ad1, dE, dP, iJ, agj, aix, aea, bB, abg, zD, aby, agx, aiI, wF, aik, aiE]
theorem adz (m : aC) (hm : m.From.length < 1000000000000000) : jH m = some (mT m) := by
 simp only [jH, qF, p8, lT, mT, cQ, an9, vP _ hm, ant, lA, abJ, ad1, dE, dP, iJ, agj, aix, aea, bB, abg, zD, aby, agx, aiI, wF, aik, aiE, zE]
end Md
end PX
