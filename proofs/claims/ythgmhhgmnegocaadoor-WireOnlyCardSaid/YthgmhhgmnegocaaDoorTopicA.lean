import Derived.Test.YthgmhhgmnegocaaDoorMod
import Derived.Test.YthgmhhgmnegocaaDoorPXc
set_option linter.unusedVariables false
set_option linter.unusedSimpArgs false
namespace PX
open Go
namespace Md
def abL (b : UInt8) : Bool := decide (97 ≤ b.toNat) && decide (b.toNat ≤ 122)
def ah8 (b : UInt8) : Bool := decide (48 ≤ b.toNat) && decide (b.toNat ≤ 57)
def pI (b : UInt8) : Bool := abL b || ah8 b || decide (b.toNat = 45)
def lB (s : Str) : Bool := decide (1 ≤ s.length) && decide (s.length ≤ 16) && abL (s.getD 0 0) && s.all pI
theorem amP {s : Str} {i : Nat} (h : i < s.length) (f : UInt8 → Bool) : (s.drop i).all f = (f s[i] && (s.drop (i + 1)).all f) := by
 rw [List.drop_eq_getElem_cons h, List.all_cons]
theorem ao6 (k4 : Str → Nat → Option Bool) (i v w : Nat) (s : Str) :
  (cond (decide ((v : Int) ≥ 97)) (kX k4 (i : Int) (v : Int) (decide ((v : Int) ≤ 122)) s (i + w)) (kX k4 (i : Int) (v : Int) false s (i + w))) =
   if 97 ≤ v ∧ v ≤ 122 then k4 s (i + w) else if i = 0 then some false else if v = 45 ∨ (48 ≤ v ∧ v ≤ 57) then k4 s (i + w) else some false := by
 unfold kX
 by_cases c1 : 97 ≤ v
 ·rw [aK (by simp; omega)]
  by_cases c2 : v ≤ 122
  ·rw [if_pos ⟨c1, c2⟩, aO (by simp; omega)]
  ·rw [if_neg (by omega), aK (by simp; omega)]
   by_cases c3 : i = 0
   ·rw [if_pos c3, aK (by simpa using c3)]
   ·rw [if_neg c3, aO (by simpa using c3), if_neg (by omega), aK (by simp; omega), aO (by simp; omega), aK (by simp; omega)]
 ·rw [aO (by simp; omega), if_neg (by omega), aK (by rfl)]
  by_cases c3 : i = 0
  ·rw [if_pos c3, aK (by simpa using c3)]
  ·rw [if_neg c3, aO (by simpa using c3)]
   by_cases c4 : v = 45
   ·rw [if_pos (.inl c4), aO (by simp; omega)]
   ·rw [aK (by simp; omega)]
    by_cases c5 : v < 48
    ·rw [if_neg (by omega), aK (by simp; omega)]
    ·rw [aO (by simp; omega)]
     by_cases c6 : v > 57
     ·rw [if_neg (by omega), aK (by simp; omega)]
     ·rw [if_pos (by omega), aO (by simp; omega)]
theorem apK (s : Str) (hs : 0 < s.length) : ∀ (k i fu : Nat), s.length - i ≤ k → k < fu → iC fu s i = some ((s.drop i).all pI && (decide (i ≠ 0) || abL (s.getD 0 0))) := by
 intro k
 induction k with
 | zero =>
  intro i fu hi hf
  obtain ⟨fu, rfl⟩ : ∃ n, fu = n + 1 := ⟨fu - 1, by omega⟩
  rw [iC, aO (by simp; omega), List.drop_eq_nil_of_le (by omega)]
  simp; omega
 | succ k ih =>
  intro i fu hi hf
  obtain ⟨fu, rfl⟩ : ∃ n, fu = n + 1 := ⟨fu - 1, by omega⟩
  by_cases h : i < s.length
  ·rw [iC, aK (by simpa using h), ao6, amP h]
   by_cases lo : s[i].toNat < 128
   ·rw [afc h lo]
    simp only
    have h0 : i = 0 → s.getD 0 0 = s[i] := by rintro rfl; rw [agr hs]
    by_cases c1 : 97 ≤ s[i].toNat ∧ s[i].toNat ≤ 122
    ·have e1 : abL s[i] = true := by simp [abL, c1]
     rw [if_pos c1, ih (i + 1) fu (by omega) (by omega)]
     by_cases hz : i = 0
     ·rw [h0 hz, e1]; simp [pI, e1]
     ·simp [pI, e1, hz]
    ·have e1 : abL s[i] = false := by simp [abL]; omega
     rw [if_neg c1]
     by_cases hz : i = 0
     ·rw [if_pos hz, h0 hz, e1]; simp [hz]
     ·rw [if_neg hz]
      by_cases c2 : s[i].toNat = 45 ∨ (48 ≤ s[i].toNat ∧ s[i].toNat ≤ 57)
      ·rw [if_pos c2, ih (i + 1) fu (by omega) (by omega)]
       have e2 : pI s[i] = true := by
        simp only [pI, ah8, Bool.or_eq_true, Bool.and_eq_true, decide_eq_true_eq]; omega
       simp [e2, hz]
      ·rw [if_neg c2]
       have e2 : pI s[i] = false := by
        simp only [pI, e1, ah8, Bool.false_or, Bool.or_eq_false_iff, Bool.and_eq_false_iff, decide_eq_false_iff_not]; omega
       simp [e2]
   ·have hd := acp h (by omega)
    have e2 : pI s[i] = false := by
     simp only [pI, abL, ah8, Bool.or_eq_false_iff, Bool.and_eq_false_iff, decide_eq_false_iff_not]; omega
    rw [if_neg (by omega)]
    by_cases hz : i = 0
    ·rw [if_pos hz]; simp [e2]
    ·rw [if_neg hz, if_neg (by omega)]; simp [e2]
  ·rw [iC, aO (by simpa using h), List.drop_eq_nil_of_le (by omega)]
   simp; omega
theorem aaY (s : Str) (hl : s.length < 1000000000000000) : jZ s = some (lB s) := by
 unfold jZ lB
 by_cases c1 : s.length < 1
 ·rw [aK (by simp; omega)]; simp; omega
 ·rw [aO (by simp; omega)]
  by_cases c2 : s.length > 16
  ·rw [aK (by simp; omega)]; simp; omega
  ·rw [aO (by simp; omega)]
   unfold rU
   rw [apK s (by omega) s.length 0 fuel (by omega) (by rw [lP]; omega)]
   have e1 : decide (1 ≤ s.length) = true := by simp; omega
   have e2 : decide (s.length ≤ 16) = true := by simp; omega
   simp [e1, e2, Bool.and_comm]
end Md
end PX
