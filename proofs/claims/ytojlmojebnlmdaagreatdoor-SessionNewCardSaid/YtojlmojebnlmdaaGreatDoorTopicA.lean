import Derived.Test.YtojlmojebnlmdaaGreatDoorMod
import Derived.Test.YtojlmojebnlmdaaGreatDoorPXd
set_option linter.unusedVariables false
set_option linter.unusedSimpArgs false
namespace PX
open Go
namespace Md
def aa8 (b : UInt8) : Bool := decide (97 ≤ b.toNat) && decide (b.toNat ≤ 122)
def ahZ (b : UInt8) : Bool := decide (48 ≤ b.toNat) && decide (b.toNat ≤ 57)
def sQ (b : UInt8) : Bool := aa8 b || ahZ b || decide (b.toNat = 45)
def lN (s : Str) : Bool := decide (1 ≤ s.length) && decide (s.length ≤ 16) && aa8 (s.getD 0 0) && s.all sQ
theorem aoW {s : Str} {i : Nat} (h : i < s.length) (f : UInt8 → Bool) : (s.drop i).all f = (f s[i] && (s.drop (i + 1)).all f) := by
 rw [List.drop_eq_getElem_cons h, List.all_cons]
theorem aAe (k4 : Str → Nat → Option Bool) (i v w : Nat) (s : Str) :
  (cond (decide ((v : Int) ≥ 97)) (o6 k4 (i : Int) (v : Int) (decide ((v : Int) ≤ 122)) s (i + w)) (o6 k4 (i : Int) (v : Int) false s (i + w))) =
   if 97 ≤ v ∧ v ≤ 122 then k4 s (i + w) else if i = 0 then some false else if v = 45 ∨ (48 ≤ v ∧ v ≤ 57) then k4 s (i + w) else some false := by
 unfold o6
 by_cases c1 : 97 ≤ v
 ·rw [aN (by simp; omega)]
  by_cases c2 : v ≤ 122
  ·rw [if_pos ⟨c1, c2⟩, aT (by simp; omega)]
  ·rw [if_neg (by omega), aN (by simp; omega)]
   by_cases c3 : i = 0
   ·rw [if_pos c3, aN (by simpa using c3)]
   ·rw [if_neg c3, aT (by simpa using c3), if_neg (by omega), aN (by simp; omega), aT (by simp; omega), aN (by simp; omega)]
 ·rw [aT (by simp; omega), if_neg (by omega), aN (by rfl)]
  by_cases c3 : i = 0
  ·rw [if_pos c3, aN (by simpa using c3)]
  ·rw [if_neg c3, aT (by simpa using c3)]
   by_cases c4 : v = 45
   ·rw [if_pos (.inl c4), aT (by simp; omega)]
   ·rw [aN (by simp; omega)]
    by_cases c5 : v < 48
    ·rw [if_neg (by omega), aN (by simp; omega)]
    ·rw [aT (by simp; omega)]
     by_cases c6 : v > 57
     ·rw [if_neg (by omega), aN (by simp; omega)]
     ·rw [if_pos (by omega), aT (by simp; omega)]
theorem axr (s : Str) (hs : 0 < s.length) : ∀ (k i fu : Nat), s.length - i ≤ k → k < fu → kQ fu s i = some ((s.drop i).all sQ && (decide (i ≠ 0) || aa8 (s.getD 0 0))) := by
 intro k
 induction k with
 | zero =>
  intro i fu hi hf
  obtain ⟨fu, rfl⟩ : ∃ n, fu = n + 1 := ⟨fu - 1, by omega⟩
  rw [kQ, aT (by simp; omega), List.drop_eq_nil_of_le (by omega)]
  simp; omega
 | succ k ih =>
  intro i fu hi hf
  obtain ⟨fu, rfl⟩ : ∃ n, fu = n + 1 := ⟨fu - 1, by omega⟩
  by_cases h : i < s.length
  ·rw [kQ, aN (by simpa using h), aAe, aoW h]
   by_cases lo : s[i].toNat < 128
   ·rw [ake h lo]
    simp only
    have h0 : i = 0 → s.getD 0 0 = s[i] := by rintro rfl; rw [aiO hs]
    by_cases c1 : 97 ≤ s[i].toNat ∧ s[i].toNat ≤ 122
    ·have e1 : aa8 s[i] = true := by simp [aa8, c1]
     rw [if_pos c1, ih (i + 1) fu (by omega) (by omega)]
     by_cases hz : i = 0
     ·rw [h0 hz, e1]; simp [sQ, e1]
     ·simp [sQ, e1, hz]
    ·have e1 : aa8 s[i] = false := by simp [aa8]; omega
     rw [if_neg c1]
     by_cases hz : i = 0
     ·rw [if_pos hz, h0 hz, e1]; simp [hz]
     ·rw [if_neg hz]
      by_cases c2 : s[i].toNat = 45 ∨ (48 ≤ s[i].toNat ∧ s[i].toNat ≤ 57)
      ·rw [if_pos c2, ih (i + 1) fu (by omega) (by omega)]
       have e2 : sQ s[i] = true := by
        simp only [sQ, ahZ, Bool.or_eq_true, Bool.and_eq_true, decide_eq_true_eq]; omega
       simp [e2, hz]
      ·rw [if_neg c2]
       have e2 : sQ s[i] = false := by
        simp only [sQ, e1, ahZ, Bool.false_or, Bool.or_eq_false_iff, Bool.and_eq_false_iff, decide_eq_false_iff_not]; omega
       simp [e2]
   ·have hd := ail h (by omega)
    have e2 : sQ s[i] = false := by
     simp only [sQ, aa8, ahZ, Bool.or_eq_false_iff, Bool.and_eq_false_iff, decide_eq_false_iff_not]; omega
    rw [if_neg (by omega)]
    by_cases hz : i = 0
    ·rw [if_pos hz]; simp [e2]
    ·rw [if_neg hz, if_neg (by omega)]; simp [e2]
  ·rw [kQ, aT (by simpa using h), List.drop_eq_nil_of_le (by omega)]
   simp; omega
theorem aiJ (s : Str) (hl : s.length < 1000000000000000) : sO s = some (lN s) := by
 unfold sO lN
 by_cases c1 : s.length < 1
 ·rw [aN (by simp; omega)]; simp; omega
 ·rw [aT (by simp; omega)]
  by_cases c2 : s.length > 16
  ·rw [aN (by simp; omega)]; simp; omega
  ·rw [aT (by simp; omega)]
   unfold yN
   rw [axr s (by omega) s.length 0 fuel (by omega) (by rw [fQ]; omega)]
   have e1 : decide (1 ≤ s.length) = true := by simp; omega
   have e2 : decide (s.length ≤ 16) = true := by simp; omega
   simp [e1, e2, Bool.and_comm]
end Md
end PX
