import Derived.Test.YtojlmojebnlmdaaGreatDoorMsgA
set_option linter.unusedVariables false
set_option linter.unusedSimpArgs false
namespace PX
open Go
namespace Md
theorem amK (x b : Int) : p7 x b = some (dL 0 b x) := by
 unfold p7 dL
 simp only [uV, adZ]
def aFT : Option Str → Str → Bool
 | none, _ => false
 | some k, s => Op.bytesLess s k || s == k
def afF : Option Str → List aG → Int
 | _, [] => 0
 | k, x :: r => cond (an0 x.Key) (cond (decide (160 < x.Value.length)) 5 (cond (aFT k x.Key) 16 (afF (some x.Key) r))) 16
def abx (l : List aG) : Int := cond (decide (8 < l.length)) 5 (afF none l)
theorem cF {α : Type} (b : Bool) (x y : α) : some (cond b x y) = cond b (some x) (some y) := by cases b <;> rfl
theorem ajK (l : List aG) : rZ l = some (abx l) := by
 unfold rZ abx
 rw [cF]
 by_cases hl : l.length > 8
 ·rw [aN (by simp; omega), aN (by simp; omega)]
 ·rw [aT (by simp; omega), aT (by simp; omega)]
  have := m6 (n := l.length) (F := fun fu i (_ : Unit) => jK fu l l (l.length : Int) i) (G := fun i _ => some (afF (if i = 0 then none else some (l.getD (i - 1) default).Key) (l.drop i))) (fun _ _ => True)
   (fun fu s _ => by rw [jK, aT (lU (by omega)), List.drop_length]; rfl)
   (fun fu i s h _ ih => by
    have ih := ih () trivial
    rw [jK, aN (dU h), aN (inr h), bU h, cR (alW _), bM (by omega), ih, List.drop_eq_getElem_cons h, afF, if_neg (by omega)]
    simp only [cF, fE, xC, Nat.add_sub_cancel]
    rw [aiO h]
    congr 1
    have e : decide (160 < (l[i].Value.length : Int)) = decide (160 < l[i].Value.length) := by rw [Bool.eq_iff_iff]; simp; omega
    rw [e]
    congr 1
    by_cases hz : i = 0
    ·subst hz; rw [aT (by simp), if_pos rfl]; rfl
    ·have e2 : IntKind.wrap .i64 ((i : Int) - 1) = ((i - 1 : Nat) : Int) := by rw [w64 (by omega) (by omega)]; omega
     rw [aN (by simp; omega), e2, aN (inr (by omega)), Int.toNat_natCast, if_neg hz]; rfl)
   (by omega) () trivial
  simpa using this
theorem aol (l : List aG) : pP l = some (abx l) := by
 unfold pP abx
 rw [cF]
 by_cases hl : l.length > 8
 ·rw [aN (by simp; omega), aN (by simp; omega)]
 ·rw [aT (by simp; omega), aT (by simp; omega)]
  have := m6 (n := l.length) (F := fun fu i (_ : Unit) => fZ fu l i) (G := fun i _ => some (afF (if i = 0 then none else some (l.getD (i - 1) default).Key) (l.drop i))) (fun _ _ => True)
   (fun fu s _ => by rw [fZ, aT (lU (by omega)), List.drop_length]; rfl)
   (fun fu i s h _ ih => by
    have ih := ih () trivial
    rw [fZ, aN (dU h), aN (inr h), bU h, cR (arl _), bM (by omega), ih, List.drop_eq_getElem_cons h, afF, if_neg (by omega)]
    simp only [cF, fE, xC, Nat.add_sub_cancel]
    rw [aiO h]
    congr 1
    have e : decide (160 < (l[i].Value.length : Int)) = decide (160 < l[i].Value.length) := by rw [Bool.eq_iff_iff]; simp; omega
    rw [e, aN (inr h)]
    congr 1
    by_cases hz : i = 0
    ·subst hz; rw [aT (by simp), if_pos rfl]; rfl
    ·have e2 : IntKind.wrap .i64 ((i : Int) - 1) = ((i - 1 : Nat) : Int) := by rw [w64 (by omega) (by omega)]; omega
     rw [aN (by simp; omega), aN (inr h), e2, aN (inr (by omega)), Int.toNat_natCast, if_neg hz]; rfl)
   (by omega) () trivial
  simpa using this
def hX (m : aA) : Int := cond (ahA m.Topic) (cond (decide (256 < (m.Payload.length : Int))) 5 (cond (dL 0 2 m.Level) (cond (dL 0 9 m.Priority) (cond (dL 0 1099511627776 m.Expires)
 (cond (m.From == []) (cond (dL 0 1099511627776 m.Seq) (abx m.Props) 1) (cond (lN m.From) (cond (dL 0 1099511627776 m.Seq) (abx m.Props) 1) 11)) 1) 1) 14)) 12
theorem uP (m : aA) (hm : m.From.length < 1000000000000000) : mX m = some (hX m) := by
 simp only [mX, hX, cF, atd, amK, aiJ _ hm, ajK, fE, abH, adK, cH, dB, dG, agB, aiy, xC, bB, aa5, qN, aa7, adZ, aiE, uV, aiL, aiD]
theorem qX (m : aA) (hm : m.From.length < 1000000000000000) : eN m = some (hX m) := by
 simp only [eN, pZ, pX, lK, hX, cF, aoQ, vF _ hm, aol, fE, abH, adK, cH, dB, dG, agB, aiy, xC, bB, aa5, qN, aa7, adZ, aiE, uV, aiL, aiD, qQ]
end Md
end PX
