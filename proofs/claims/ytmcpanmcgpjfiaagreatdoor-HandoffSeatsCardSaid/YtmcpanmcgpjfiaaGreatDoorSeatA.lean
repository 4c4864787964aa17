import Derived.Test.YtmcpanmcgpjfiaaGreatDoorSessD
import Derived.KernelRfl
set_option linter.unusedVariables false
set_option linter.unusedSimpArgs false
namespace PX
open Go
namespace Md
theorem asZ : bI = some true := by kernel_rfl
def aau (x : aA) : Int := cond (oC x.Client) (cond (eC 0 6 x.Node) (cond (eC 1 1099511627776 x.Epoch) 0 1) 1) 11
def ais : Option Str → List aA → Int
 | _, [] => 0
 | p, x :: r => cond (aau x == 0) (cond (leO p x.Client) 22 (ais (some x.Client) r)) (aau x)
def aiE (l : List aA) : Int := cond (decide ((l.length : Int) > 32)) 5 (ais none l)
def aa7 (l : List aA) (i : Nat) : Option Str := if i = 0 then none else some (l.getD (i - 1) default).Client
theorem aoG {l : List aA} {i : Nat} (h : i < l.length) : aa7 l (i + 1) = some l[i].Client := by simp [aa7, h]
theorem anq (x a b : Int) : l1 x a b = some (eC a b x) := by
 unfold l1 eC
 simp only [tS]
theorem apb (x : aA) (o : Option Int) : cond (!oC x.Client) (some 11) (cond (decide (x.Node < 0)) (some 1) (cond (decide (x.Node ≥ 7)) (some 1) (cond (decide (x.Epoch < 1)) (some 1) (cond (decide (x.Epoch > 1099511627776)) (some 1) o)))) = cond (aau x == 0) o (some (aau x)) := by
 unfold aau
 cases oC x.Client with
 | false => rfl
 | true =>
  simp only [Bool.not_true, iH, eZ]
  by_cases h0 : x.Node < 0
  ·have : eC 0 6 x.Node = false := by unfold eC; simp; omega
   rw [aT (by simpa using h0), this]; rfl
  ·rw [bE (by simpa using h0)]
   by_cases h1 : x.Node ≥ 7
   ·have : eC 0 6 x.Node = false := by unfold eC; simp; omega
    rw [aT (by simpa using h1), this]; rfl
   ·have : eC 0 6 x.Node = true := by unfold eC; simp; omega
    rw [bE (by simpa using h1), this, eZ]
    by_cases h2 : x.Epoch < 1
    ·have : eC 1 1099511627776 x.Epoch = false := by unfold eC; simp; omega
     rw [aT (by simpa using h2), this]; rfl
    ·rw [bE (by simpa using h2)]
     by_cases h3 : x.Epoch > 1099511627776
     ·have : eC 1 1099511627776 x.Epoch = false := by unfold eC; simp; omega
      rw [aT (by simpa using h3), this]; rfl
     ·have : eC 1 1099511627776 x.Epoch = true := by unfold eC; simp; omega
      rw [bE (by simpa using h3), this]; rfl
theorem aoT (x : aA) (o : Option Int) : cond (!oC x.Client) (some 11) (cond (!eC 0 6 x.Node) (some 1) (cond (!eC 1 1099511627776 x.Epoch) (some 1) o)) = cond (aau x == 0) o (some (aau x)) := by
 unfold aau
 cases oC x.Client <;> cases eC 0 6 x.Node <;> cases eC 1 1099511627776 x.Epoch <;> rfl
theorem aiY {F : Nat → Int → Option Int} {l : List aA} (hl : l.length ≤ 140737488351232) (h0 : ∀ fu, F (fu + 1) (l.length : Int) = some 0)
  (h1 : ∀ fu i (hi : i < l.length), F (fu + 1) (i : Int) = cond (aau l[i] == 0) (cond (leO (aa7 l i) l[i].Client) (some 22) (F fu ((i + 1 : Nat) : Int))) (some (aau l[i]))) : F fuel 0 = some (ais none l) := by
 have := iP (n := l.length) (F := fun fu i (_ : Unit) => F fu i) (G := fun i _ => some (ais (aa7 l i) (l.drop i))) (fun _ _ => True)
  (fun fu s _ => by rw [h0, List.drop_length]; rfl)
  (fun fu i s hi _ ih => by
   have ih := ih () trivial
   rw [aoG hi] at ih
   rw [h1 fu i hi, ih, List.drop_eq_getElem_cons hi, ais, cL, cL]) (by omega) () trivial
 simpa [aa7] using this
theorem akd {l : List aA} {i : Nat} (hi : i < l.length) (hl : l.length ≤ 140737488351232) (f : Str) (o : Option Int) :
  cond (decide ((i : Int) > 0)) (cond (decide (0 ≤ IntKind.wrap .i64 ((i : Int) - 1)) && decide (IntKind.wrap .i64 ((i : Int) - 1) < (l.length : Int))) (cond (Op.bytesLess f (l.getD (Int.toNat (IntKind.wrap .i64 ((i : Int) - 1))) default).Client || f == (l.getD (Int.toNat (IntKind.wrap .i64 ((i : Int) - 1))) default).Client) (some 22) o) none) o = cond (leO (aa7 l i) f) (some 22) o := by
 rcases Nat.eq_zero_or_pos i with hz | hpos
 ·rw [bE (by simp; omega)]; simp [aa7, hz, leO]
 ·have hq : i - 1 < l.length := by omega
  have e2 : IntKind.wrap .i64 ((i : Int) - 1) = ((i - 1 : Nat) : Int) := by rw [IntKind.wrap_i64]; omega
  have e3 : aa7 l i = some l[i - 1].Client := by simp [aa7, show ¬ i = 0 by omega, hq]
  rw [aT (by simp; omega), e2, aT (inr hq), cW hq, e3]
  rfl
theorem apH (l : List aA) (h : okL aA.good l) : pQ l = some (aiE l) := by
 have hl := h.1
 unfold pQ aiE
 rw [cL]
 refine congrArg _ (aiY hl (F := fun fu i => iO fu l l (l.length : Int) i) (fun fu => by rw [iO, bE (by simp)]) (fun fu i hi => ?_))
 rw [iO, aT (iI hi), aT (inr hi), cW hi, adw _ (qE (xC h hi).1), c9, akd hi hl, apb, cI (by omega)]
theorem akR (l : List aA) (h : okL aA.good l) : dN l = some (aiE l) := by
 have hl := h.1
 unfold dN aiE
 rw [cL]
 refine congrArg _ (aiY hl (F := fun fu i => gW fu l l (l.length : Int) i) (fun fu => by rw [gW, bE (by simp)]) (fun fu i hi => ?_))
 rw [gW, aT (iI hi), aT (inr hi), cW hi, wM _ (qE (xC h hi).1), c9, anq, anq, c9, c9]
 unfold m8
 rw [akd hi hl, aoT, cI (by omega)]
theorem akg (a b : aA) : ((a.Client == b.Client) && ((a.Node == b.Node) && ((a.Epoch == b.Epoch) && true))) = decide (a = b) := by
 obtain ⟨a1, a2, a3⟩ := a
 obtain ⟨b1, b2, b3⟩ := b
 rw [Bool.eq_iff_iff]
 simp
theorem contains_eq (l : List aA) (x : aA) (hl : l.length ≤ 140737488351232) : cR l x = some (decide (x ∈ l)) := by
 unfold cR gQ
 have := iP (n := l.length) (F := fun fu i (_ : Unit) => (cS fu l (l.length : Int) i x).map fun r => decide (r ≥ 0)) (G := fun i _ => some (decide (x ∈ l.drop i))) (fun _ _ => True)
  (fun fu s _ => by rw [cS, bE (by simp), List.drop_length]; simp)
  (fun fu i s hi _ ih => by
   have ih := ih () trivial
   rw [cS, aT (iI hi), aT (inr hi), cW hi, akg, cI (by omega), List.drop_eq_getElem_cons hi]
   by_cases e : x = l[i]
   ·rw [aT (by simpa using e)]; simp [e, -List.getElem_cons_drop]
   ·rw [bE (by simpa using e), ih]; simp [e, -List.getElem_cons_drop]) (by omega) () trivial
 rw [List.drop_zero] at this
 cases hx : cS fuel l (l.length : Int) 0 x with
 | none => rw [hx] at this; cases this
 | some r => rw [hx] at this; exact this
theorem aqt (l : List aA) (c : Str) (n e : Int) (hl : l.length ≤ 140737488351232) : jV l c n e = some (decide (aA.mk c n e ∈ l)) := by
 unfold jV
 rw [contains_eq l _ hl, c9]
theorem alh (l : List aA) (c : Str) (n e : Int) (hl : l.length ≤ 140737488351232) : nS l c n e = some (decide (aA.mk c n e ∈ l)) := by
 unfold nS
 have := iP (n := l.length) (F := fun fu i (_ : Unit) => eM fu c n e l (l.length : Int) i) (G := fun i _ => some (decide (aA.mk c n e ∈ l.drop i))) (fun _ _ => True)
  (fun fu s _ => by rw [eM, bE (by simp), List.drop_length]; simp)
  (fun fu i s hi _ ih => by
   have ih := ih () trivial
   rw [eM, aT (iI hi), aT (inr hi), cW hi, cI (by omega), ih]
   have ed : l.drop i = l[i] :: l.drop (i + 1) := List.drop_eq_getElem_cons hi
   rw [ed]
   have : (decide (aA.mk c n e ∈ l[i] :: l.drop (i + 1))) = (((l[i].Client == c) && ((l[i].Node == n) && ((l[i].Epoch == e) && true))) || decide (aA.mk c n e ∈ l.drop (i + 1))) := by
    have h2 := akg l[i] (aA.mk c n e)
    rw [show ((l[i].Client == c) && ((l[i].Node == n) && ((l[i].Epoch == e) && true))) = decide (l[i] = aA.mk c n e) from h2, Bool.eq_iff_iff, decide_eq_true_eq, Bool.or_eq_true, decide_eq_true_eq, decide_eq_true_eq, List.mem_cons]
    exact ⟨fun h => h.imp Eq.symm id, fun h => h.imp Eq.symm id⟩
   rw [this]
   cases l[i].Client == c <;> cases l[i].Node == n <;> cases l[i].Epoch == e <;> rfl) (by omega) () trivial
 simpa using this
end Md
end PX
