import Derived.Test.YtmcpanmcgpjfiaaGreatDoorSeatB
set_option linter.unusedVariables false
set_option linter.unusedSimpArgs false
namespace PX
open Go
namespace Md
def aDl (x y : aA) : Bool := cond (decide (x.Epoch > y.Epoch)) true (cond (x.Epoch == y.Epoch) (decide (x.Node < y.Node)) false)
def mrg (w : List aA) (x : aA) : List aA :=
 match w.find? (fun y => y.Client == x.Client) with
 | none => aDo x w
 | some y => cond (aDl x y) (aDo x w) w
def aD6 (l : List aA) (x : aA) : List aA → List aA
 | [] => aDo x l
 | y :: _ => cond (aDl x y) (aDo x l) l
theorem aDz (l : List aA) (x y : aA) (t : List aA) : aD6 l x (y :: t) = cond (aDl x y) (aDo x l) l := rfl
theorem aD1 {β : Type} (x y : aA) (P Q : β) : cond (decide (x.Epoch > y.Epoch)) P (cond (x.Epoch == y.Epoch) (cond (decide (x.Node < y.Node)) P Q) Q) = cond (aDl x y) P Q := by
 unfold aDl
 cases decide (x.Epoch > y.Epoch) <;> cases x.Epoch == y.Epoch <;> cases decide (x.Node < y.Node) <;> rfl
theorem aDQ {l A M B : List aA} {x : aA} (k : aDG l x.Client A M B) : mrg l x = aD6 l x M := by
 have hA : A.find? (fun y => y.Client == x.Client) = none := List.find?_eq_none.2 fun y hy => by rw [aDN (k.lo y hy)]; simp
 have hB : B.find? (fun y => y.Client == x.Client) = none := List.find?_eq_none.2 fun y hy => by rw [aDx (k.hi y hy)]; simp
 have : l.find? (fun y => y.Client == x.Client) = M.head? := by
  rw [k.eq, List.find?_append, List.find?_append, hA, hB]
  rcases k.mid with rfl | ⟨y, rfl, hy⟩
  ·rfl
  ·simp [hy]
 unfold mrg
 rw [this]
 cases M <;> rfl
theorem aDR {l : List aA} (h : asc43 l) (x : aA) : asc43 (mrg l x) ∧ (mrg l x).length ≤ l.length + 1 := by
 obtain ⟨A, M, B, k⟩ := aDw x.Client h
 have hl := k.len
 have hp : asc43 (aDo x l) ∧ (aDo x l).length ≤ l.length + 1 := by
  rw [aDv k]
  exact ⟨aEh h k, by simp; omega⟩
 rw [aDQ k]
 cases M with
 | nil => exact hp
 | cons y t =>
  rw [aDz]
  cases aDl x y
  ·exact ⟨h, by show l.length ≤ _; omega⟩
  ·exact hp
def aDm (a b : List aA) : List aA := b.foldl mrg a
theorem aDn : ∀ {b a : List aA}, asc43 a → asc43 (aDm a b) ∧ (aDm a b).length ≤ a.length + b.length
 | [], a, h => ⟨h, by show a.length ≤ _; omega⟩
 | x :: r, a, h => by
  obtain ⟨h1, h2⟩ := aDR h x
  obtain ⟨h3, h4⟩ := aDn (b := r) h1
  exact ⟨h3, by show (aDm (mrg a x) r).length ≤ _; simp only [List.length_cons]; omega⟩
theorem aEj {l A M B : List aA} {x : aA} (h : asc43 l) (hn : l.length ≤ 1000) (k : aDG l x.Client A M B) (K : List aA → Option (List aA)) :
  (cond (!(!M.isEmpty)) (Option.bind (jE l (A.length : Int) [x]) K) (
    cond (decide (0 ≤ (A.length : Int)) && decide ((A.length : Int) < (l.length : Int))) (
     cond (decide (x.Epoch > (l.getD (Int.toNat (A.length : Int)) default).Epoch)) (
      cond (decide (0 ≤ (A.length : Int)) && decide ((A.length : Int) < (l.length : Int))) (K (List.set l (Int.toNat (A.length : Int)) x)) none) (
     cond (decide (0 ≤ (A.length : Int)) && decide ((A.length : Int) < (l.length : Int))) (
      cond (x.Epoch == (l.getD (Int.toNat (A.length : Int)) default).Epoch) (
       cond (decide (0 ≤ (A.length : Int)) && decide ((A.length : Int) < (l.length : Int))) (
        cond (decide (x.Node < (l.getD (Int.toNat (A.length : Int)) default).Node)) (
         cond (decide (0 ≤ (A.length : Int)) && decide ((A.length : Int) < (l.length : Int))) (K (List.set l (Int.toNat (A.length : Int)) x)) none) (K l)) none) (K l)) none)) none)) = K (mrg l x) := by
 have hl := k.len
 have hm := aDQ k
 rcases k.mid with rfl | ⟨y, rfl, hy⟩
 ·simp only [List.isEmpty, Bool.not_true, Bool.not_false, eZ]
  rw [aD3 (A := A) (B := B) x (by rw [k.eq]; simp) (by omega), c9, hm]
  rw [show aD6 l x [] = aDo x l from rfl, aDv k]
 ·have hlt : A.length < l.length := by simp at hl; omega
  have hx : l[A.length] = y := by
   have := k.eq
   subst this
   rw [List.getElem_append_right (by omega)]
   simp
  have t : Int.toNat (A.length : Int) = A.length := by simp
  have hset : l.set A.length x = aDo x l := by
   rw [aDv k, k.eq, List.set_append_right _ _ (Nat.le_refl _)]; simp
  have hb : (decide (0 ≤ (A.length : Int)) && decide ((A.length : Int) < (l.length : Int))) = true := inr hlt
  simp only [List.isEmpty, Bool.not_true, Bool.not_false, iH]
  rw [cW hlt, hx, t, hset, aT hb, aT hb, aT hb, aT hb, hm]
  rw [aD1]
  rw [aDz]
  cases aDl x y <;> rfl
theorem aDt (a b : List aA) (ha : asc43 a) (h1 : a.length ≤ 400) (h2 : b.length ≤ 400) : gB a b = some (aDm a b) := by
 unfold gB
 rw [aD9 (by omega), c9]
 exact aiB (l := b) (F := fun fu i (w : List aA) => iV fu b (b.length : Int) i w) (g := fun r w => some (aDm w r)) (fun i w => asc43 w ∧ w.length ≤ a.length + i)
  (fun fu w _ => by rw [iV, bE (by simp)]; rfl)
  (fun fu i w hi hw ih => by
   obtain ⟨A, M, B, k⟩ := aDw b[i].Client hw.1
   obtain ⟨q1, q2⟩ := aDR hw.1 b[i]
   have hwl := hw.2
   rw [iV, aT (iI hi)]
   simp only [aT (inr hi), cW hi]
   rw [aEc k (by omega), c9, cI (by omega)]
   have hs := aEj hw.1 (by omega) k (fun w => iV fu b (b.length : Int) ((i + 1 : Nat) : Int) w)
   refine Eq.trans hs ?_
   exact ih _ ⟨q1, by omega⟩) (by omega) a ⟨ha, by omega⟩
end Md
end PX
