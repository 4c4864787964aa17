import Derived.Test.YtojlmojebnlmdaaGreatDoorPktB
set_option linter.unusedVariables false
set_option linter.unusedSimpArgs false
namespace PX
open Go
namespace Md
def av8 (l : List Int) (x : Int) : Nat := (l.takeWhile fun y => decide (y < x)).length
theorem ahT {l : List Int} (h : l.length * 8 ≤ 140737488355328) : cQ l = some l := by
 unfold cQ
 cases l with
 | nil => simp only [List.isEmpty, j1]; exact acP _
 | cons a l => simp only [List.isEmpty, nL, List.nil_append]; rw [aR (by simpa using h)]
def w7 : Int → List Int → Bool
 | _, [] => true
 | a, x :: r => cond (decide (x ≤ a)) false (cond (decide (65535 < x)) false (w7 x r))
def y7 (l : List Int) : Int := cond (decide ((l.length : Int) > 32)) 5 (cond (w7 0 l) 0 15)
theorem aj3 {l : List Int} (h : y7 l = 0) : l.length ≤ 32 ∧ w7 0 l = true := by
 unfold y7 at h
 by_cases h1 : (l.length : Int) > 32
 ·rw [aR (by simpa using h1)] at h; cases h
 ·rw [bD (by simpa using h1)] at h
  cases h2 : w7 0 l with
  | false => rw [h2] at h; cases h
  | true => exact ⟨by omega, rfl⟩
theorem ahD (p : aJ) (hl : p.Used.length < 100000000000000000) (h0 : p.Last = 0) : gF p = some (y7 p.Used) := by
 unfold gF y7
 rw [eU]
 refine congrArg _ ?_
 have := pH (n := p.Used.length) (F := fun fu i (_ : Unit) => cK fu i p) (G := fun i _ => some (cond (w7 (if i = 0 then 0 else p.Used.getD (i - 1) default) (p.Used.drop i)) 0 15)) (fun i _ => i = 0 ∨ 1 ≤ p.Used.getD (i - 1) default)
  (fun fu s _ => by
   rw [List.drop_length, cK, bD (by simp), h0]; rfl)
  (fun fu i s hi hp ih => by
   rw [cK, aR (nK hi)]
   simp only [aR (inr hi), dD hi]
   have e1 : (p.Used.getD (i + 1 - 1) default) = p.Used[i] := by simp [hi]
   rw [List.drop_eq_getElem_cons hi, w7]
   by_cases c0 : p.Used[i] < 1
   ·rw [aR (by simpa using c0)]
    rcases hp with rfl | hp
    ·rw [if_pos rfl, aR (x := false) (decide_eq_true (by omega))]; rfl
    ·rw [aR (x := false) (decide_eq_true (by split <;> omega))]; rfl
   ·have ih := ih () (.inr (by rw [e1]; omega))
    rw [dA (by omega), ih]
    simp only [Nat.add_one_ne_zero, if_false, e1]
    rw [bD (by simpa using c0)]
    by_cases c2 : 65535 < p.Used[i]
    ·rw [aR (x := some 15) (by simpa using c2), decide_eq_true c2]
     cases decide (p.Used[i] ≤ if i = 0 then 0 else p.Used.getD (i - 1) default) <;> rfl
    ·rw [bD (x := some 15) (by simpa using c2), decide_eq_false c2]
     rcases Nat.eq_zero_or_pos i with hz | hpos
     ·have e0 : decide ((i : Int) > 0) = false := by simp; omega
      rw [e0, if_pos hz, decide_eq_false (show ¬ p.Used[i] ≤ 0 by omega)]; rfl
     ·have hq : i - 1 < p.Used.length := by omega
      have e2 : IntKind.wrap .i64 ((i : Int) - 1) = ((i - 1 : Nat) : Int) := by rw [IntKind.wrap_i64]; omega
      have e3 : (p.Used.getD (i - 1) default) = p.Used[i - 1] := by simp [hq]
      have e0 : decide ((i : Int) > 0) = true := by simp; omega
      simp only [e0, j1, e2, aR (inr hq), dD hq, if_neg (show ¬ i = 0 by omega), e3]
      cases decide (p.Used[i] ≤ p.Used[i - 1]) <;> rfl) (by omega) () (.inl rfl)
 exact this
theorem ajF (p : aJ) (x : Int) (hl : p.Used.length < 100000000000000000) : oA p x = some (p.Used.contains x) := by
 unfold oA
 refine tG (l := p.Used) (F := fun fu i => iE fu x i p) (g := fun l => some (l.contains x)) (fun fu => ?_) (fun fu i hi ih => ?_) (by omega)
 ·rw [iE, bD (by simp)]; rfl
 ·rw [iE, aR (nK hi), aR (inr hi), dD hi, dA (by omega), ih, List.contains_cons]
  by_cases e : p.Used[i] = x
  ·rw [aR (by simpa using e)]; simp [e]
  ·rw [bD (by simpa using e), show (x == p.Used[i]) = false by simpa using fun h => e h.symm, Bool.false_or]
theorem ac8 (a b : List Int) (hl : a.length < 100000000000000000) : kR a b = some (decide (a = b)) := by
 unfold kR
 by_cases h : a.length = b.length
 ·rw [bD (by simp [h])]
  refine ahZ (F := fun fu i => gP fu a b i) h (fun fu => ?_) (fun fu i h1 h2 => ?_) (by omega)
  ·rw [gP, bD (by simp)]
  ·rw [gP, aR (nK h1)]
   simp only [aR (inr h1), aR (inr h2), dD h1, dD h2]
   rw [dA (by omega), n8, ali]
 ·rw [aR (by simp; omega), decide_eq_false (fun e => h (by rw [e]))]
def av4 (l : List Int) (x : Int) : List Int := (l.takeWhile fun y => decide (y < x)) ++ [x] ++ l.dropWhile fun y => decide (y < x)
end Md
end PX
