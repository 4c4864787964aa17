import Derived.Test.YtojlmojebnlmdaaGreatDoorPktB
set_option linter.unusedVariables false
set_option linter.unusedSimpArgs false
namespace PX
open Go
namespace Md
def auq (l : List Int) (x : Int) : Nat := (l.takeWhile fun y => decide (y < x)).length
theorem agR {l : List Int} (h : l.length * 8 ≤ 140737488355328) : cS l = some l := by
 unfold cS
 cases l with
 | nil => simp only [List.isEmpty, j4]; exact ab5 _
 | cons a l => simp only [List.isEmpty, oC, List.nil_append]; rw [aT (by simpa using h)]
def wB : Int → List Int → Bool
 | _, [] => true
 | a, x :: r => cond (decide (x ≤ a)) false (cond (decide (65535 < x)) false (wB x r))
def yF (l : List Int) : Int := cond (decide ((l.length : Int) > 32)) 5 (cond (wB 0 l) 0 15)
theorem ai0 {l : List Int} (h : yF l = 0) : l.length ≤ 32 ∧ wB 0 l = true := by
 unfold yF at h
 by_cases h1 : (l.length : Int) > 32
 ·rw [aT (by simpa using h1)] at h; cases h
 ·rw [bE (by simpa using h1)] at h
  cases h2 : wB 0 l with
  | false => rw [h2] at h; cases h
  | true => exact ⟨by omega, rfl⟩
theorem agt (p : aJ) (hl : p.Used.length < 100000000000000000) (h0 : p.Last = 0) : fZ p = some (yF p.Used) := by
 unfold fZ yF
 rw [eR]
 refine congrArg _ ?_
 have := oM (n := p.Used.length) (F := fun fu i (_ : Unit) => cO fu i p) (G := fun i _ => some (cond (wB (if i = 0 then 0 else p.Used.getD (i - 1) default) (p.Used.drop i)) 0 15)) (fun i _ => i = 0 ∨ 1 ≤ p.Used.getD (i - 1) default)
  (fun fu s _ => by
   rw [List.drop_length, cO, bE (by simp), h0]; rfl)
  (fun fu i s hi hp ih => by
   rw [cO, aT (n4 hi)]
   simp only [aT (inr hi), fA hi]
   have e1 : (p.Used.getD (i + 1 - 1) default) = p.Used[i] := by simp [hi]
   rw [List.drop_eq_getElem_cons hi, wB]
   by_cases c0 : p.Used[i] < 1
   ·rw [aT (by simpa using c0)]
    rcases hp with rfl | hp
    ·rw [if_pos rfl, aT (x := false) (decide_eq_true (by omega))]; rfl
    ·rw [aT (x := false) (decide_eq_true (by split <;> omega))]; rfl
   ·have ih := ih () (.inr (by rw [e1]; omega))
    rw [dC (by omega), ih]
    simp only [Nat.add_one_ne_zero, if_false, e1]
    rw [bE (by simpa using c0)]
    by_cases c2 : 65535 < p.Used[i]
    ·rw [aT (x := some 15) (by simpa using c2), decide_eq_true c2]
     cases decide (p.Used[i] ≤ if i = 0 then 0 else p.Used.getD (i - 1) default) <;> rfl
    ·rw [bE (x := some 15) (by simpa using c2), decide_eq_false c2]
     rcases Nat.eq_zero_or_pos i with hz | hpos
     ·have e0 : decide ((i : Int) > 0) = false := by simp; omega
      rw [e0, if_pos hz, decide_eq_false (show ¬ p.Used[i] ≤ 0 by omega)]; rfl
     ·have hq : i - 1 < p.Used.length := by omega
      have e2 : IntKind.wrap .i64 ((i : Int) - 1) = ((i - 1 : Nat) : Int) := by rw [IntKind.wrap_i64]; omega
      have e3 : (p.Used.getD (i - 1) default) = p.Used[i - 1] := by simp [hq]
      have e0 : decide ((i : Int) > 0) = true := by simp; omega
      simp only [e0, j4, e2, aT (inr hq), fA hq, if_neg (show ¬ i = 0 by omega), e3]
      cases decide (p.Used[i] ≤ p.Used[i - 1]) <;> rfl) (by omega) () (.inl rfl)
 exact this
theorem ah2 (p : aJ) (x : Int) (hl : p.Used.length < 100000000000000000) : m8 p x = some (p.Used.contains x) := by
 unfold m8
 refine zJ (l := p.Used) (F := fun fu i => hH fu x i p) (g := fun l => some (l.contains x)) (fun fu => ?_) (fun fu i hi ih => ?_) (by omega)
 ·rw [hH, bE (by simp)]; rfl
 ·rw [hH, aT (n4 hi), aT (inr hi), fA hi, dC (by omega), ih, List.contains_cons]
  by_cases e : p.Used[i] = x
  ·rw [aT (by simpa using e)]; simp [e]
  ·rw [bE (by simpa using e), show (x == p.Used[i]) = false by simpa using fun h => e h.symm, Bool.false_or]
def aun (l : List Int) (x : Int) : List Int := (l.takeWhile fun y => decide (y < x)) ++ [x] ++ l.dropWhile fun y => decide (y < x)
end Md
end PX
