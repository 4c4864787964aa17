import Derived.Test.YtmcpanmcgpjfiaaGreatDoorSessD
import Derived.KernelRfl
set_option linter.unusedVariables false
set_option linter.unusedSimpArgs false
namespace PX
open Go
namespace Md
theorem asZ : bI = some true := by kernel_rfl
def aau (x : aA) : Int := cond (oC x.Client) (cond (eC 0 6 x.Node) (cond (eC 1 1099511627776 x.Epoch) 0 1) 1) 11
def ais : Option Str → List aA → Int
 | _, [] => 0
 | p, x :: r => cond (aau x == 0) (cond (leO p x.Client) 22 (ais (some x.Client) r)) (aau x)
def aiE (l : List aA) : Int := cond (decide ((l.length : Int) > 32)) 5 (ais none l)
def aa7 (l : List aA) (i : Nat) : Option Str := if i = 0 then none else some (l.getD (i - 1) default).Client
theorem aoG {l : List aA} {i : Nat} (h : i < l.length) : aa7 l (i + 1) = some l[i].Client := by simp [aa7, h]
theorem anq (x a b : Int) : l1 x a b = some (eC a b x) := by
 unfold l1 eC
 simp only [tS]
theorem aoT (x : aA) (o : Option Int) : cond (!oC x.Client) (some 11) (cond (!eC 0 6 x.Node) (some 1) (cond (!eC 1 1099511627776 x.Epoch) (some 1) o)) = cond (aau x == 0) o (some (aau x)) := by
 unfold aau
 cases oC x.Client <;> cases eC 0 6 x.Node <;> cases eC 1 1099511627776 x.Epoch <;> rfl
theorem aiY {F : Nat → Int → Option Int} {l : List aA} (hl : l.length ≤ 140737488351232) (h0 : ∀ fu, F (fu + 1) (l.length : Int) = some 0)
  (h1 : ∀ fu i (hi : i < l.length), F (fu + 1) (i : Int) = cond (aau l[i] == 0) (cond (leO (aa7 l i) l[i].Client) (some 22) (F fu ((i + 1 : Nat) : Int))) (some (aau l[i]))) : F fuel 0 = some (ais none l) := by
 have := iP (n := l.length) (F := fun fu i (_ : Unit) => F fu i) (G := fun i _ => some (ais (aa7 l i) (l.drop i))) (fun _ _ => True)
  (fun fu s _ => by rw [h0, List.drop_length]; rfl)
  (fun fu i s hi _ ih => by
   have ih := ih () trivial
   rw [aoG hi] at ih
   rw [h1 fu i hi, ih, List.drop_eq_getElem_cons hi, ais, cL, cL]) (by omega) () trivial
 simpa [aa7] using this
theorem akd {l : List aA} {i : Nat} (hi : i < l.length) (hl : l.length ≤ 140737488351232) (f : Str) (o : Option Int) :
  cond (decide ((i : Int) > 0)) (cond (decide (0 ≤ IntKind.wrap .i64 ((i : Int) - 1)) && decide (IntKind.wrap .i64 ((i : Int) - 1) < (l.length : Int))) (cond (Op.bytesLess f (l.getD (Int.toNat (IntKind.wrap .i64 ((i : Int) - 1))) default).Client || f == (l.getD (Int.toNat (IntKind.wrap .i64 ((i : Int) - 1))) default).Client) (some 22) o) none) o = cond (leO (aa7 l i) f) (some 22) o := by
 rcases Nat.eq_zero_or_pos i with hz | hpos
 ·rw [bE (by simp; omega)]; simp [aa7, hz, leO]
 ·have hq : i - 1 < l.length := by omega
  have e2 : IntKind.wrap .i64 ((i : Int) - 1) = ((i - 1 : Nat) : Int) := by rw [IntKind.wrap_i64]; omega
  have e3 : aa7 l i = some l[i - 1].Client := by simp [aa7, show ¬ i = 0 by omega, hq]
  rw [aT (by simp; omega), e2, aT (inr hq), cW hq, e3]
  rfl
theorem akR (l : List aA) (h : okL aA.good l) : dN l = some (aiE l) := by
 have hl := h.1
 unfold dN aiE
 rw [cL]
 refine congrArg _ (aiY hl (F := fun fu i => gW fu l l (l.length : Int) i) (fun fu => by rw [gW, bE (by simp)]) (fun fu i hi => ?_))
 rw [gW, aT (iI hi), aT (inr hi), cW hi, wM _ (qE (xC h hi).1), c9, anq, anq, c9, c9]
 unfold m8
 rw [akd hi hl, aoT, cI (by omega)]
theorem akg (a b : aA) : ((a.Client == b.Client) && ((a.Node == b.Node) && ((a.Epoch == b.Epoch) && true))) = decide (a = b) := by
 obtain ⟨a1, a2, a3⟩ := a
 obtain ⟨b1, b2, b3⟩ := b
 rw [Bool.eq_iff_iff]
 simp
end Md
end PX
