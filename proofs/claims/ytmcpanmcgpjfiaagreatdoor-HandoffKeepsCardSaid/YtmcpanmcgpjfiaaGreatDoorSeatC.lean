import Derived.Test.YtmcpanmcgpjfiaaGreatDoorSeatB
set_option linter.unusedVariables false
set_option linter.unusedSimpArgs false
namespace PX
open Go
namespace Md
def eV (x y : aA) : Bool := cond (decide (x.Epoch > y.Epoch)) true (cond (x.Epoch == y.Epoch) (decide (x.Node < y.Node)) false)
def mrg (w : List aA) (x : aA) : List aA :=
 match w.find? (fun y => y.Client == x.Client) with
 | none => kX x w
 | some y => cond (eV x y) (kX x w) w
def alW (l : List aA) (x : aA) : List aA → List aA
 | [] => kX x l
 | y :: _ => cond (eV x y) (kX x l) l
theorem zK (l : List aA) (x y : aA) (t : List aA) : alW l x (y :: t) = cond (eV x y) (kX x l) l := rfl
theorem akP {β : Type} (x y : aA) (P Q : β) : cond (decide (x.Epoch > y.Epoch)) P (cond (x.Epoch == y.Epoch) (cond (decide (x.Node < y.Node)) P Q) Q) = cond (eV x y) P Q := by
 unfold eV
 cases decide (x.Epoch > y.Epoch) <;> cases x.Epoch == y.Epoch <;> cases decide (x.Node < y.Node) <;> rfl
theorem afb {l A M B : List aA} {x : aA} (k : abz l x.Client A M B) : mrg l x = alW l x M := by
 have hA : A.find? (fun y => y.Client == x.Client) = none := List.find?_eq_none.2 fun y hy => by rw [ade (k.lo y hy)]; simp
 have hB : B.find? (fun y => y.Client == x.Client) = none := List.find?_eq_none.2 fun y hy => by rw [wO (k.hi y hy)]; simp
 have : l.find? (fun y => y.Client == x.Client) = M.head? := by
  rw [k.eq, List.find?_append, List.find?_append, hA, hB]
  rcases k.mid with rfl | ⟨y, rfl, hy⟩
  ·rfl
  ·simp [hy]
 unfold mrg
 rw [this]
 cases M <;> rfl
theorem afm {l : List aA} (h : asc43 l) (x : aA) : asc43 (mrg l x) ∧ (mrg l x).length ≤ l.length + 1 := by
 obtain ⟨A, M, B, k⟩ := xP x.Client h
 have hl := k.len
 have hp : asc43 (kX x l) ∧ (kX x l).length ≤ l.length + 1 := by
  rw [uK k]
  exact ⟨apA h k, by simp; omega⟩
 rw [afb k]
 cases M with
 | nil => exact hp
 | cons y t =>
  rw [zK]
  cases eV x y
  ·exact ⟨h, by show l.length ≤ _; omega⟩
  ·exact hp
def jC (a b : List aA) : List aA := b.foldl mrg a
theorem lU : ∀ {b a : List aA}, asc43 a → asc43 (jC a b) ∧ (jC a b).length ≤ a.length + b.length
 | [], a, h => ⟨h, by show a.length ≤ _; omega⟩
 | x :: r, a, h => by
  obtain ⟨h1, h2⟩ := afm h x
  obtain ⟨h3, h4⟩ := lU (b := r) h1
  exact ⟨h3, by show (jC (mrg a x) r).length ≤ _; simp only [List.length_cons]; omega⟩
theorem aqX {l A M B : List aA} {x : aA} (h : asc43 l) (hn : l.length ≤ 1000) (k : abz l x.Client A M B) (K : List aA → Option (List aA)) :
  (cond (!(!M.isEmpty)) (Option.bind (eH l (A.length : Int) [x]) K) (
    cond (decide (0 ≤ (A.length : Int)) && decide ((A.length : Int) < (l.length : Int))) (
     cond (decide (x.Epoch > (l.getD (Int.toNat (A.length : Int)) default).Epoch)) (
      cond (decide (0 ≤ (A.length : Int)) && decide ((A.length : Int) < (l.length : Int))) (K (List.set l (Int.toNat (A.length : Int)) x)) none) (
     cond (decide (0 ≤ (A.length : Int)) && decide ((A.length : Int) < (l.length : Int))) (
      cond (x.Epoch == (l.getD (Int.toNat (A.length : Int)) default).Epoch) (
       cond (decide (0 ≤ (A.length : Int)) && decide ((A.length : Int) < (l.length : Int))) (
        cond (decide (x.Node < (l.getD (Int.toNat (A.length : Int)) default).Node)) (
         cond (decide (0 ≤ (A.length : Int)) && decide ((A.length : Int) < (l.length : Int))) (K (List.set l (Int.toNat (A.length : Int)) x)) none) (K l)) none) (K l)) none)) none)) = K (mrg l x) := by
 have hl := k.len
 have hm := afb k
 rcases k.mid with rfl | ⟨y, rfl, hy⟩
 ·simp only [List.isEmpty, Bool.not_true, Bool.not_false, dE]
  rw [ake (A := A) (B := B) x (by rw [k.eq]; simp) (by omega), bB, hm]
  rw [show alW l x [] = kX x l from rfl, uK k]
 ·have hlt : A.length < l.length := by simp at hl; omega
  have hx : l[A.length] = y := by
   have := k.eq
   subst this
   rw [List.getElem_append_right (by omega)]
   simp
  have t : Int.toNat (A.length : Int) = A.length := by simp
  have hset : l.set A.length x = kX x l := by
   rw [uK k, k.eq, List.set_append_right _ _ (Nat.le_refl _)]; simp
  have hb : (decide (0 ≤ (A.length : Int)) && decide ((A.length : Int) < (l.length : Int))) = true := inr hlt
  simp only [List.isEmpty, Bool.not_true, Bool.not_false, dP]
  rw [bZ hlt, hx, t, hset, aO hb, aO hb, aO hb, aO hb, hm]
  rw [akP]
  rw [zK]
  cases eV x y <;> rfl
theorem ahW (a b : List aA) (ha : asc43 a) (h1 : a.length ≤ 400) (h2 : b.length ≤ 400) : fW a b = some (jC a b) := by
 unfold fW
 rw [ame (by omega), bB]
 exact jY (l := b) (F := fun fu i (w : List aA) => eY fu b (b.length : Int) i w) (g := fun r w => some (jC w r)) (fun i w => asc43 w ∧ w.length ≤ a.length + i)
  (fun fu w _ => by rw [eY, aY (by simp)]; rfl)
  (fun fu i w hi hw ih => by
   obtain ⟨A, M, B, k⟩ := xP b[i].Client hw.1
   obtain ⟨q1, q2⟩ := afm hw.1 b[i]
   have hwl := hw.2
   rw [eY, aO (eM hi)]
   simp only [aO (inr hi), bZ hi]
   rw [anv k (by omega), bB, bW (by omega)]
   have hs := aqX hw.1 (by omega) k (fun w => eY fu b (b.length : Int) ((i + 1 : Nat) : Int) w)
   refine Eq.trans hs ?_
   exact ih _ ⟨q1, by omega⟩) (by omega) a ⟨ha, by omega⟩
end Md
end PX
