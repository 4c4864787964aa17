import Derived.Test.YtmcpanmcgpjfiaaGreatDoorMod
import Derived.Test.YtmcpanmcgpjfiaaGreatDoorPXd
set_option linter.unusedVariables false
set_option linter.unusedSimpArgs false
namespace PX
open Go
namespace Md
def abf (b : UInt8) : Bool := decide (97 ≤ b.toNat) && decide (b.toNat ≤ 122)
def ahN (b : UInt8) : Bool := decide (48 ≤ b.toNat) && decide (b.toNat ≤ 57)
def sD (b : UInt8) : Bool := abf b || ahN b || decide (b.toNat = 45)
def hY (s : Str) : Bool := decide (1 ≤ s.length) && decide (s.length ≤ 16) && abf (s.getD 0 0) && s.all sD
theorem anz {s : Str} {i : Nat} (h : i < s.length) (f : UInt8 → Bool) : (s.drop i).all f = (f s[i] && (s.drop (i + 1)).all f) := by
 rw [List.drop_eq_getElem_cons h, List.all_cons]
theorem ayr (k4 : Str → Nat → Option Bool) (i v w : Nat) (s : Str) :
  (cond (decide ((v : Int) ≥ 97)) (pE k4 (i : Int) (v : Int) (decide ((v : Int) ≤ 122)) s (i + w)) (pE k4 (i : Int) (v : Int) false s (i + w))) =
   if 97 ≤ v ∧ v ≤ 122 then k4 s (i + w) else if i = 0 then some false else if v = 45 ∨ (48 ≤ v ∧ v ≤ 57) then k4 s (i + w) else some false := by
 unfold pE
 by_cases c1 : 97 ≤ v
 ·rw [aO (by simp; omega)]
  by_cases c2 : v ≤ 122
  ·rw [if_pos ⟨c1, c2⟩, aY (by simp; omega)]
  ·rw [if_neg (by omega), aO (by simp; omega)]
   by_cases c3 : i = 0
   ·rw [if_pos c3, aO (by simpa using c3)]
   ·rw [if_neg c3, aY (by simpa using c3), if_neg (by omega), aO (by simp; omega), aY (by simp; omega), aO (by simp; omega)]
 ·rw [aY (by simp; omega), if_neg (by omega), aO (by rfl)]
  by_cases c3 : i = 0
  ·rw [if_pos c3, aO (by simpa using c3)]
  ·rw [if_neg c3, aY (by simpa using c3)]
   by_cases c4 : v = 45
   ·rw [if_pos (.inl c4), aY (by simp; omega)]
   ·rw [aO (by simp; omega)]
    by_cases c5 : v < 48
    ·rw [if_neg (by omega), aO (by simp; omega)]
    ·rw [aY (by simp; omega)]
     by_cases c6 : v > 57
     ·rw [if_neg (by omega), aO (by simp; omega)]
     ·rw [if_pos (by omega), aY (by simp; omega)]
theorem aw5 (s : Str) (hs : 0 < s.length) : ∀ (k i fu : Nat), s.length - i ≤ k → k < fu → lH fu s i = some ((s.drop i).all sD && (decide (i ≠ 0) || abf (s.getD 0 0))) := by
 intro k
 induction k with
 | zero =>
  intro i fu hi hf
  obtain ⟨fu, rfl⟩ : ∃ n, fu = n + 1 := ⟨fu - 1, by omega⟩
  rw [lH, aY (by simp; omega), List.drop_eq_nil_of_le (by omega)]
  simp; omega
 | succ k ih =>
  intro i fu hi hf
  obtain ⟨fu, rfl⟩ : ∃ n, fu = n + 1 := ⟨fu - 1, by omega⟩
  by_cases h : i < s.length
  ·rw [lH, aO (by simpa using h), ayr, anz h]
   by_cases lo : s[i].toNat < 128
   ·rw [akh h lo]
    simp only
    have h0 : i = 0 → s.getD 0 0 = s[i] := by rintro rfl; rw [aiC hs]
    by_cases c1 : 97 ≤ s[i].toNat ∧ s[i].toNat ≤ 122
    ·have e1 : abf s[i] = true := by simp [abf, c1]
     rw [if_pos c1, ih (i + 1) fu (by omega) (by omega)]
     by_cases hz : i = 0
     ·rw [h0 hz, e1]; simp [sD, e1]
     ·simp [sD, e1, hz]
    ·have e1 : abf s[i] = false := by simp [abf]; omega
     rw [if_neg c1]
     by_cases hz : i = 0
     ·rw [if_pos hz, h0 hz, e1]; simp [hz]
     ·rw [if_neg hz]
      by_cases c2 : s[i].toNat = 45 ∨ (48 ≤ s[i].toNat ∧ s[i].toNat ≤ 57)
      ·rw [if_pos c2, ih (i + 1) fu (by omega) (by omega)]
       have e2 : sD s[i] = true := by
        simp only [sD, ahN, Bool.or_eq_true, Bool.and_eq_true, decide_eq_true_eq]; omega
       simp [e2, hz]
      ·rw [if_neg c2]
       have e2 : sD s[i] = false := by
        simp only [sD, e1, ahN, Bool.false_or, Bool.or_eq_false_iff, Bool.and_eq_false_iff, decide_eq_false_iff_not]; omega
       simp [e2]
   ·have hd := ahC h (by omega)
    have e2 : sD s[i] = false := by
     simp only [sD, abf, ahN, Bool.or_eq_false_iff, Bool.and_eq_false_iff, decide_eq_false_iff_not]; omega
    rw [if_neg (by omega)]
    by_cases hz : i = 0
    ·rw [if_pos hz]; simp [e2]
    ·rw [if_neg hz, if_neg (by omega)]; simp [e2]
  ·rw [lH, aY (by simpa using h), List.drop_eq_nil_of_le (by omega)]
   simp; omega
theorem acB (s : Str) (hl : s.length < 1000000000000000) : oD s = some (hY s) := by
 unfold oD hY
 by_cases c1 : s.length < 1
 ·rw [aO (by simp; omega)]; simp; omega
 ·rw [aY (by simp; omega)]
  by_cases c2 : s.length > 16
  ·rw [aO (by simp; omega)]; simp; omega
  ·rw [aY (by simp; omega)]
   unfold yV
   rw [aw5 s (by omega) s.length 0 fuel (by omega) (by rw [kR]; omega)]
   have e1 : decide (1 ≤ s.length) = true := by simp; omega
   have e2 : decide (s.length ≤ 16) = true := by simp; omega
   simp [e1, e2, Bool.and_comm]
end Md
end PX
