import Derived.Test.YtojlmojebnlmdaaGreatDoorPktB
set_option linter.unusedVariables false
set_option linter.unusedSimpArgs false
namespace PX
open Go
namespace Md
def axc (l : List Int) (x : Int) : Nat := (l.takeWhile fun y => decide (y < x)).length
theorem aqY {i j : Nat} (h : i + j < 4611686018427387904) : IntKind.wrap .i64 (shr .u64 (IntKind.wrap .u64 (IntKind.wrap .i64 ((i : Int) + (j : Int)))) 1) = (((i + j) / 2 : Nat) : Int) := by
 have h1 : IntKind.wrap .i64 ((i : Int) + (j : Int)) = ((i + j : Nat) : Int) := by rw [IntKind.wrap_i64]; omega
 have h2 : IntKind.wrap .u64 ((i + j : Nat) : Int) = ((i + j : Nat) : Int) := by
  simp only [IntKind.wrap, IntKind.signed, IntKind.bits]; simp; omega
 rw [h1, h2]
 have h3 : shr .u64 ((i + j : Nat) : Int) 1 = (((i + j) / 2 : Nat) : Int) := by
  unfold shr
  have : (2 : Int) ^ (min (1 : Int).toNat IntKind.u64.bits) = 2 := by decide
  rw [this, Int.fdiv_eq_ediv_of_nonneg _ (by omega)]
  omega
 rw [h3, IntKind.wrap_i64]; omega
theorem aiD {l : List Int} (h : l.length * 8 ≤ 140737488355328) : c8 l = some l := by
 unfold c8
 cases l with
 | nil => simp only [List.isEmpty, jU]; exact adh _
 | cons a l => simp only [List.isEmpty, lA, List.nil_append]; rw [aO (by simpa using h)]
def yA : Int → List Int → Bool
 | _, [] => true
 | a, x :: r => cond (decide (x ≤ a)) false (cond (decide (65535 < x)) false (yA x r))
def aaB (l : List Int) : Int := cond (decide ((l.length : Int) > 32)) 5 (cond (yA 0 l) 0 15)
theorem ak2 {l : List Int} (h : aaB l = 0) : l.length ≤ 32 ∧ yA 0 l = true := by
 unfold aaB at h
 by_cases h1 : (l.length : Int) > 32
 ·rw [aO (by simpa using h1)] at h; cases h
 ·rw [aT (by simpa using h1)] at h
  cases h2 : yA 0 l with
  | false => rw [h2] at h; cases h
  | true => exact ⟨by omega, rfl⟩
theorem aia (p : aJ) (hl : p.Used.length < 100000000000000000) (h0 : p.Last = 0) : gR p = some (aaB p.Used) := by
 unfold gR aaB
 rw [eH]
 refine congrArg _ ?_
 have := o0 (n := p.Used.length) (F := fun fu i (_ : Unit) => cS fu i p) (G := fun i _ => some (cond (yA (if i = 0 then 0 else p.Used.getD (i - 1) default) (p.Used.drop i)) 0 15)) (fun i _ => i = 0 ∨ 1 ≤ p.Used.getD (i - 1) default)
  (fun fu s _ => by
   rw [List.drop_length, cS, aT (by simp), h0]; rfl)
  (fun fu i s hi hp ih => by
   rw [cS, aO (jX hi)]
   simp only [aO (inr hi), cE hi]
   have e1 : (p.Used.getD (i + 1 - 1) default) = p.Used[i] := by simp [hi]
   rw [List.drop_eq_getElem_cons hi, yA]
   by_cases c0 : p.Used[i] < 1
   ·rw [aO (by simpa using c0)]
    rcases hp with rfl | hp
    ·rw [if_pos rfl, aO (x := false) (decide_eq_true (by omega))]; rfl
    ·rw [aO (x := false) (decide_eq_true (by split <;> omega))]; rfl
   ·have ih := ih () (.inr (by rw [e1]; omega))
    rw [bU (by omega), ih]
    simp only [Nat.add_one_ne_zero, if_false, e1]
    rw [aT (by simpa using c0)]
    by_cases c2 : 65535 < p.Used[i]
    ·rw [aO (x := some 15) (by simpa using c2), decide_eq_true c2]
     cases decide (p.Used[i] ≤ if i = 0 then 0 else p.Used.getD (i - 1) default) <;> rfl
    ·rw [aT (x := some 15) (by simpa using c2), decide_eq_false c2]
     rcases Nat.eq_zero_or_pos i with hz | hpos
     ·have e0 : decide ((i : Int) > 0) = false := by simp; omega
      rw [e0, if_pos hz, decide_eq_false (show ¬ p.Used[i] ≤ 0 by omega)]; rfl
     ·have hq : i - 1 < p.Used.length := by omega
      have e2 : IntKind.wrap .i64 ((i : Int) - 1) = ((i - 1 : Nat) : Int) := by rw [IntKind.wrap_i64]; omega
      have e3 : (p.Used.getD (i - 1) default) = p.Used[i - 1] := by simp [hq]
      have e0 : decide ((i : Int) > 0) = true := by simp; omega
      simp only [e0, jU, e2, aO (inr hq), cE hq, if_neg (show ¬ i = 0 by omega), e3]
      cases decide (p.Used[i] ≤ p.Used[i - 1]) <;> rfl) (by omega) () (.inl rfl)
 exact this
theorem aky (p : aJ) (x : Int) (hl : p.Used.length < 100000000000000000) : oS p x = some (p.Used.contains x) := by
 unfold oS
 refine uO (l := p.Used) (F := fun fu i => iJ fu x i p) (g := fun l => some (l.contains x)) (fun fu => ?_) (fun fu i hi ih => ?_) (by omega)
 ·rw [iJ, aT (by simp)]; rfl
 ·rw [iJ, aO (jX hi), aO (inr hi), cE hi, bU (by omega), ih, List.contains_cons]
  by_cases e : p.Used[i] = x
  ·rw [aO (by simpa using e)]; simp [e]
  ·rw [aT (by simpa using e), show (x == p.Used[i]) = false by simpa using fun h => e h.symm, Bool.false_or]
theorem adH (a b : List Int) (hl : a.length < 100000000000000000) : lU a b = some (decide (a = b)) := by
 unfold lU
 by_cases h : a.length = b.length
 ·rw [aT (by simp [h])]
  refine aiJ (F := fun fu i => g5 fu a b i) h (fun fu => ?_) (fun fu i h1 h2 => ?_) (by omega)
  ·rw [g5, aT (by simp)]
  ·rw [g5, aO (jX h1)]
   simp only [aO (inr h1), aO (inr h2), cE h1, cE h2]
   rw [bU (by omega), oQ, al2]
 ·rw [aO (by simp; omega), decide_eq_false (fun e => h (by rw [e]))]
def aw6 (l : List Int) (x : Int) : List Int := (l.takeWhile fun y => decide (y < x)) ++ [x] ++ l.dropWhile fun y => decide (y < x)
end Md
end PX
