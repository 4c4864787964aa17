import Derived.Test.YtojlmojebnlmdaaGreatDoorMsgA
set_option linter.unusedVariables false
set_option linter.unusedSimpArgs false
namespace PX
open Go
namespace Md
theorem amF (x b : Int) : pV x b = some (dF 0 b x) := by
 unfold pV dF
 simp only [uI, adR]
def aF2 : Option Str → Str → Bool
 | none, _ => false
 | some k, s => Op.bytesLess s k || s == k
def afe : Option Str → List aG → Int
 | _, [] => 0
 | k, x :: r => cond (aoB x.Key) (cond (decide (160 < x.Value.length)) 5 (cond (aF2 k x.Key) 16 (afe (some x.Key) r))) 16
def abt (l : List aG) : Int := cond (decide (8 < l.length)) 5 (afe none l)
theorem cD {α : Type} (b : Bool) (x y : α) : some (cond b x y) = cond b (some x) (some y) := by cases b <;> rfl
theorem ajR (l : List aG) : rS l = some (abt l) := by
 unfold rS abt
 rw [cD]
 by_cases hl : l.length > 8
 ·rw [aO (by simp; omega), aO (by simp; omega)]
 ·rw [aU (by simp; omega), aU (by simp; omega)]
  have := kV (n := l.length) (F := fun fu i (_ : Unit) => jM fu l l (l.length : Int) i) (G := fun i _ => some (afe (if i = 0 then none else some (l.getD (i - 1) default).Key) (l.drop i))) (fun _ _ => True)
   (fun fu s _ => by rw [jM, aU (mX (by omega)), List.drop_length]; rfl)
   (fun fu i s h _ ih => by
    have ih := ih () trivial
    rw [jM, aO (eA h), aO (inr h), bV h, cQ (alu _), bN (by omega), ih, List.drop_eq_getElem_cons h, afe, if_neg (by omega)]
    simp only [cD, fB, wR, Nat.add_sub_cancel]
    rw [aiB h]
    congr 1
    have e : decide (160 < (l[i].Value.length : Int)) = decide (160 < l[i].Value.length) := by rw [Bool.eq_iff_iff]; simp; omega
    rw [e]
    congr 1
    by_cases hz : i = 0
    ·subst hz; rw [aU (by simp), if_pos rfl]; rfl
    ·have e2 : IntKind.wrap .i64 ((i : Int) - 1) = ((i - 1 : Nat) : Int) := by rw [w64 (by omega) (by omega)]; omega
     rw [aO (by simp; omega), e2, aO (inr (by omega)), Int.toNat_natCast, if_neg hz]; rfl)
   (by omega) () trivial
  simpa using this
theorem ant (l : List aG) : pG l = some (abt l) := by
 unfold pG abt
 rw [cD]
 by_cases hl : l.length > 8
 ·rw [aO (by simp; omega), aO (by simp; omega)]
 ·rw [aU (by simp; omega), aU (by simp; omega)]
  have := kV (n := l.length) (F := fun fu i (_ : Unit) => gA fu l i) (G := fun i _ => some (afe (if i = 0 then none else some (l.getD (i - 1) default).Key) (l.drop i))) (fun _ _ => True)
   (fun fu s _ => by rw [gA, aU (mX (by omega)), List.drop_length]; rfl)
   (fun fu i s h _ ih => by
    have ih := ih () trivial
    rw [gA, aO (eA h), aO (inr h), bV h, cQ (arv _), bN (by omega), ih, List.drop_eq_getElem_cons h, afe, if_neg (by omega)]
    simp only [cD, fB, wR, Nat.add_sub_cancel]
    rw [aiB h]
    congr 1
    have e : decide (160 < (l[i].Value.length : Int)) = decide (160 < l[i].Value.length) := by rw [Bool.eq_iff_iff]; simp; omega
    rw [e, aO (inr h)]
    congr 1
    by_cases hz : i = 0
    ·subst hz; rw [aU (by simp), if_pos rfl]; rfl
    ·have e2 : IntKind.wrap .i64 ((i : Int) - 1) = ((i - 1 : Nat) : Int) := by rw [w64 (by omega) (by omega)]; omega
     rw [aO (by simp; omega), aO (inr h), e2, aO (inr (by omega)), Int.toNat_natCast, if_neg hz]; rfl)
   (by omega) () trivial
  simpa using this
def gT (m : aA) : Int := cond (acU m.Topic) (cond (decide (256 < (m.Payload.length : Int))) 5 (cond (dF 0 2 m.Level) (cond (dF 0 9 m.Priority) (cond (dF 0 1099511627776 m.Expires)
 (cond (m.From == []) (cond (dF 0 1099511627776 m.Seq) (abt m.Props) 1) (cond (j3 m.From) (cond (dF 0 1099511627776 m.Seq) (abt m.Props) 1) 11)) 1) 1) 14)) 12
theorem uM (m : aA) (hm : m.From.length < 1000000000000000) : mU m = some (gT m) := by
 simp only [mU, gT, cD, auu, amF, ain _ hm, ajR, fB, abv, adW, cA, cS, dI, af6, aiE, wR, bD, aa7, qQ, aaP, adR, aiI, uI, aiw, ais]
theorem qJ (m : aA) (hm : m.From.length < 1000000000000000) : eN m = some (gT m) := by
 simp only [eN, pP, pO, k8, gT, cD, anq, vC _ hm, ant, fB, abv, adW, cA, cS, dI, af6, aiE, wR, bD, aa7, qQ, aaP, adR, aiI, uI, aiw, ais, qM]
end Md
end PX
