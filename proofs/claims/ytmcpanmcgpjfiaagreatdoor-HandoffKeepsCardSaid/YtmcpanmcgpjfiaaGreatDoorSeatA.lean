import Derived.Test.YtmcpanmcgpjfiaaGreatDoorSessD
import Derived.KernelRfl
set_option linter.unusedVariables false
set_option linter.unusedSimpArgs false
namespace PX
open Go
namespace Md
theorem aiq : bJ = some true := by kernel_rfl
def seatE (x : aA) : Int := cond (hY x.Client) (cond (dG 0 6 x.Node) (cond (dG 1 1099511627776 x.Epoch) 0 1) 1) 11
def adX : Option Str → List aA → Int
 | _, [] => 0
 | p, x :: r => cond (seatE x == 0) (cond (leO p x.Client) 22 (adX (some x.Client) r)) (seatE x)
def aaj (l : List aA) : Int := cond (decide ((l.length : Int) > 32)) 5 (adX none l)
def acb (l : List aA) (i : Nat) : Option Str := if i = 0 then none else some (l.getD (i - 1) default).Client
theorem aq0 {l : List aA} {i : Nat} (h : i < l.length) : acb l (i + 1) = some l[i].Client := by simp [acb, h]
theorem alk (x a b : Int) : nP x a b = some (dG a b x) := by
 unfold nP dG
 simp only [wF]
theorem ap2 (x : aA) (o : Option Int) : cond (!hY x.Client) (some 11) (cond (!dG 0 6 x.Node) (some 1) (cond (!dG 1 1099511627776 x.Epoch) (some 1) o)) = cond (seatE x == 0) o (some (seatE x)) := by
 unfold seatE
 cases hY x.Client <;> cases dG 0 6 x.Node <;> cases dG 1 1099511627776 x.Epoch <;> rfl
theorem aks {F : Nat → Int → Option Int} {l : List aA} (hl : l.length ≤ 140737488351232) (h0 : ∀ fu, F (fu + 1) (l.length : Int) = some 0)
  (h1 : ∀ fu i (hi : i < l.length), F (fu + 1) (i : Int) = cond (seatE l[i] == 0) (cond (leO (acb l i) l[i].Client) (some 22) (F fu ((i + 1 : Nat) : Int))) (some (seatE l[i]))) : F fuel 0 = some (adX none l) := by
 have := jG (n := l.length) (F := fun fu i (_ : Unit) => F fu i) (G := fun i _ => some (adX (acb l i) (l.drop i))) (fun _ _ => True)
  (fun fu s _ => by rw [h0, List.drop_length]; rfl)
  (fun fu i s hi _ ih => by
   have ih := ih () trivial
   rw [aq0 hi] at ih
   rw [h1 fu i hi, ih, List.drop_eq_getElem_cons hi, adX, cQ, cQ]) (by omega) () trivial
 simpa [acb] using this
theorem amF {l : List aA} {i : Nat} (hi : i < l.length) (hl : l.length ≤ 140737488351232) (f : Str) (o : Option Int) :
  cond (decide ((i : Int) > 0)) (cond (decide (0 ≤ IntKind.wrap .i64 ((i : Int) - 1)) && decide (IntKind.wrap .i64 ((i : Int) - 1) < (l.length : Int))) (cond (Op.bytesLess f (l.getD (Int.toNat (IntKind.wrap .i64 ((i : Int) - 1))) default).Client || f == (l.getD (Int.toNat (IntKind.wrap .i64 ((i : Int) - 1))) default).Client) (some 22) o) none) o = cond (leO (acb l i) f) (some 22) o := by
 rcases Nat.eq_zero_or_pos i with hz | hpos
 ·rw [aY (by simp; omega)]; simp [acb, hz, leO]
 ·have hq : i - 1 < l.length := by omega
  have e2 : IntKind.wrap .i64 ((i : Int) - 1) = ((i - 1 : Nat) : Int) := by rw [IntKind.wrap_i64]; omega
  have e3 : acb l i = some l[i - 1].Client := by simp [acb, show ¬ i = 0 by omega, hq]
  rw [aO (by simp; omega), e2, aO (inr hq), bZ hq, e3]
  rfl
theorem yU (l : List aA) (h : okL aA.good l) : dW l = some (aaj l) := by
 have hl := h.1
 unfold dW aaj
 rw [cQ]
 refine congrArg _ (aks hl (F := fun fu i => iT fu l l (l.length : Int) i) (fun fu => by rw [iT, aY (by simp)]) (fun fu i hi => ?_))
 rw [iT, aO (eM hi), aO (inr hi), bZ hi, vP _ (p9 (zW h hi).1), bB, alk, alk, bB, bB]
 unfold o0
 rw [amF hi hl, ap2, bW (by omega)]
theorem ah6 (a b : aA) : ((a.Client == b.Client) && ((a.Node == b.Node) && ((a.Epoch == b.Epoch) && true))) = decide (a = b) := by
 obtain ⟨a1, a2, a3⟩ := a
 obtain ⟨b1, b2, b3⟩ := b
 rw [Bool.eq_iff_iff]
 simp
theorem contains_eq (l : List aA) (x : aA) (hl : l.length ≤ 140737488351232) : cX l x = some (decide (x ∈ l)) := by
 unfold cX iL
 have := jG (n := l.length) (F := fun fu i (_ : Unit) => (cW fu l (l.length : Int) i x).map fun r => decide (r ≥ 0)) (G := fun i _ => some (decide (x ∈ l.drop i))) (fun _ _ => True)
  (fun fu s _ => by rw [cW, aY (by simp), List.drop_length]; simp)
  (fun fu i s hi _ ih => by
   have ih := ih () trivial
   rw [cW, aO (eM hi), aO (inr hi), bZ hi, ah6, bW (by omega), List.drop_eq_getElem_cons hi]
   by_cases e : x = l[i]
   ·rw [aO (by simpa using e)]; simp [e, -List.getElem_cons_drop]
   ·rw [aY (by simpa using e), ih]; simp [e, -List.getElem_cons_drop]) (by omega) () trivial
 rw [List.drop_zero] at this
 cases hx : cW fuel l (l.length : Int) 0 x with
 | none => rw [hx] at this; cases this
 | some r => rw [hx] at this; exact this
theorem aoi (l : List aA) (c : Str) (n e : Int) (hl : l.length ≤ 140737488351232) : lB l c n e = some (decide (aA.mk c n e ∈ l)) := by
 unfold lB
 rw [contains_eq l _ hl, bB]
end Md
end PX
