import Derived.Test.YthgmhhgmnegocaaGreatDoorMod
import Derived.Test.YthgmhhgmnegocaaGreatDoorPXc
set_option linter.unusedVariables false
set_option linter.unusedSimpArgs false
namespace PX
open Go
namespace Md
def abv (b : UInt8) : Bool := decide (97 ≤ b.toNat) && decide (b.toNat ≤ 122)
def aiA (b : UInt8) : Bool := decide (48 ≤ b.toNat) && decide (b.toNat ≤ 57)
def sH (b : UInt8) : Bool := abv b || aiA b || decide (b.toNat = 45)
def mL (s : Str) : Bool := decide (1 ≤ s.length) && decide (s.length ≤ 16) && abv (s.getD 0 0) && s.all sH
theorem aoc {s : Str} {i : Nat} (h : i < s.length) (f : UInt8 → Bool) : (s.drop i).all f = (f s[i] && (s.drop (i + 1)).all f) := by
 rw [List.drop_eq_getElem_cons h, List.all_cons]
theorem azh (k4 : Str → Nat → Option Bool) (i v w : Nat) (s : Str) :
  (cond (decide ((v : Int) ≥ 97)) (pR k4 (i : Int) (v : Int) (decide ((v : Int) ≤ 122)) s (i + w)) (pR k4 (i : Int) (v : Int) false s (i + w))) =
   if 97 ≤ v ∧ v ≤ 122 then k4 s (i + w) else if i = 0 then some false else if v = 45 ∨ (48 ≤ v ∧ v ≤ 57) then k4 s (i + w) else some false := by
 unfold pR
 by_cases c1 : 97 ≤ v
 ·rw [aL (by simp; omega)]
  by_cases c2 : v ≤ 122
  ·rw [if_pos ⟨c1, c2⟩, aQ (by simp; omega)]
  ·rw [if_neg (by omega), aL (by simp; omega)]
   by_cases c3 : i = 0
   ·rw [if_pos c3, aL (by simpa using c3)]
   ·rw [if_neg c3, aQ (by simpa using c3), if_neg (by omega), aL (by simp; omega), aQ (by simp; omega), aL (by simp; omega)]
 ·rw [aQ (by simp; omega), if_neg (by omega), aL (by rfl)]
  by_cases c3 : i = 0
  ·rw [if_pos c3, aL (by simpa using c3)]
  ·rw [if_neg c3, aQ (by simpa using c3)]
   by_cases c4 : v = 45
   ·rw [if_pos (.inl c4), aQ (by simp; omega)]
   ·rw [aL (by simp; omega)]
    by_cases c5 : v < 48
    ·rw [if_neg (by omega), aL (by simp; omega)]
    ·rw [aQ (by simp; omega)]
     by_cases c6 : v > 57
     ·rw [if_neg (by omega), aL (by simp; omega)]
     ·rw [if_pos (by omega), aQ (by simp; omega)]
theorem ayn (s : Str) (hs : 0 < s.length) : ∀ (k i fu : Nat), s.length - i ≤ k → k < fu → lP fu s i = some ((s.drop i).all sH && (decide (i ≠ 0) || abv (s.getD 0 0))) := by
 intro k
 induction k with
 | zero =>
  intro i fu hi hf
  obtain ⟨fu, rfl⟩ : ∃ n, fu = n + 1 := ⟨fu - 1, by omega⟩
  rw [lP, aQ (by simp; omega), List.drop_eq_nil_of_le (by omega)]
  simp; omega
 | succ k ih =>
  intro i fu hi hf
  obtain ⟨fu, rfl⟩ : ∃ n, fu = n + 1 := ⟨fu - 1, by omega⟩
  by_cases h : i < s.length
  ·rw [lP, aL (by simpa using h), azh, aoc h]
   by_cases lo : s[i].toNat < 128
   ·rw [alU h lo]
    simp only
    have h0 : i = 0 → s.getD 0 0 = s[i] := by rintro rfl; rw [ajg hs]
    by_cases c1 : 97 ≤ s[i].toNat ∧ s[i].toNat ≤ 122
    ·have e1 : abv s[i] = true := by simp [abv, c1]
     rw [if_pos c1, ih (i + 1) fu (by omega) (by omega)]
     by_cases hz : i = 0
     ·rw [h0 hz, e1]; simp [sH, e1]
     ·simp [sH, e1, hz]
    ·have e1 : abv s[i] = false := by simp [abv]; omega
     rw [if_neg c1]
     by_cases hz : i = 0
     ·rw [if_pos hz, h0 hz, e1]; simp [hz]
     ·rw [if_neg hz]
      by_cases c2 : s[i].toNat = 45 ∨ (48 ≤ s[i].toNat ∧ s[i].toNat ≤ 57)
      ·rw [if_pos c2, ih (i + 1) fu (by omega) (by omega)]
       have e2 : sH s[i] = true := by
        simp only [sH, aiA, Bool.or_eq_true, Bool.and_eq_true, decide_eq_true_eq]; omega
       simp [e2, hz]
      ·rw [if_neg c2]
       have e2 : sH s[i] = false := by
        simp only [sH, e1, aiA, Bool.false_or, Bool.or_eq_false_iff, Bool.and_eq_false_iff, decide_eq_false_iff_not]; omega
       simp [e2]
   ·have hd := aiI h (by omega)
    have e2 : sH s[i] = false := by
     simp only [sH, abv, aiA, Bool.or_eq_false_iff, Bool.and_eq_false_iff, decide_eq_false_iff_not]; omega
    rw [if_neg (by omega)]
    by_cases hz : i = 0
    ·rw [if_pos hz]; simp [e2]
    ·rw [if_neg hz, if_neg (by omega)]; simp [e2]
  ·rw [lP, aQ (by simpa using h), List.drop_eq_nil_of_le (by omega)]
   simp; omega
theorem af4 (s : Str) (hl : s.length < 1000000000000000) : oH s = some (mL s) := by
 unfold oH mL
 by_cases c1 : s.length < 1
 ·rw [aL (by simp; omega)]; simp; omega
 ·rw [aQ (by simp; omega)]
  by_cases c2 : s.length > 16
  ·rw [aL (by simp; omega)]; simp; omega
  ·rw [aQ (by simp; omega)]
   unfold zO
   rw [ayn s (by omega) s.length 0 fuel (by omega) (by rw [iX]; omega)]
   have e1 : decide (1 ≤ s.length) = true := by simp; omega
   have e2 : decide (s.length ≤ 16) = true := by simp; omega
   simp [e1, e2, Bool.and_comm]
end Md
end PX
