import Derived.Test.YtcfpheihkbkloaaGreatDoorMod
import Derived.Test.YtcfpheihkbkloaaGreatDoorPXd
set_option linter.unusedVariables false
set_option linter.unusedSimpArgs false
/- Names and sizes of topics. -/
set_option linter.unusedVariables false
set_option linter.unusedSimpArgs false
namespace PX
open Go
namespace Md
def lowB (b : UInt8) : Bool := decide (97 ≤ b.toNat) && decide (b.toNat ≤ 122)
def digB (b : UInt8) : Bool := decide (48 ≤ b.toNat) && decide (b.toNat ≤ 57)
def nameC (b : UInt8) : Bool := lowB b || digB b || decide (b.toNat = 45)
def nameB (s : Str) : Bool := decide (1 ≤ s.length) && decide (s.length ≤ 16) && lowB (s.getD 0 0) && s.all nameC
theorem all_drop {s : Str} {i : Nat} (h : i < s.length) (f : UInt8 → Bool) : (s.drop i).all f = (f s[i] && (s.drop (i + 1)).all f) := by
 rw [List.drop_eq_getElem_cons h, List.all_cons]
theorem name_j (k4 : Str → Nat → Option Bool) (i v w : Nat) (s : Str) :
  (cond (decide ((v : Int) ≥ 97)) (topic_Name_j7 k4 (i : Int) (v : Int) (decide ((v : Int) ≤ 122)) s (i + w)) (topic_Name_j7 k4 (i : Int) (v : Int) false s (i + w))) =
   if 97 ≤ v ∧ v ≤ 122 then k4 s (i + w) else if i = 0 then some false else if v = 45 ∨ (48 ≤ v ∧ v ≤ 57) then k4 s (i + w) else some false := by
 unfold topic_Name_j7
 by_cases c1 : 97 ≤ v
 ·rw [cond_t (by simp; omega)]
  by_cases c2 : v ≤ 122
  ·rw [if_pos ⟨c1, c2⟩, cond_f (by simp; omega)]
  ·rw [if_neg (by omega), cond_t (by simp; omega)]
   by_cases c3 : i = 0
   ·rw [if_pos c3, cond_t (by simpa using c3)]
   ·rw [if_neg c3, cond_f (by simpa using c3), if_neg (by omega), cond_t (by simp; omega), cond_f (by simp; omega), cond_t (by simp; omega)]
 ·rw [cond_f (by simp; omega), if_neg (by omega), cond_t (by rfl)]
  by_cases c3 : i = 0
  ·rw [if_pos c3, cond_t (by simpa using c3)]
  ·rw [if_neg c3, cond_f (by simpa using c3)]
   by_cases c4 : v = 45
   ·rw [if_pos (.inl c4), cond_f (by simp; omega)]
   ·rw [cond_t (by simp; omega)]
    by_cases c5 : v < 48
    ·rw [if_neg (by omega), cond_t (by simp; omega)]
    ·rw [cond_f (by simp; omega)]
     by_cases c6 : v > 57
     ·rw [if_neg (by omega), cond_t (by simp; omega)]
     ·rw [if_pos (by omega), cond_f (by simp; omega)]
theorem name_l (s : Str) (hs : 0 < s.length) : ∀ (k i fu : Nat), s.length - i ≤ k → k < fu → topic_Name_l4 fu s i = some ((s.drop i).all nameC && (decide (i ≠ 0) || lowB (s.getD 0 0))) := by
 intro k
 induction k with
 | zero =>
  intro i fu hi hf
  obtain ⟨fu, rfl⟩ : ∃ n, fu = n + 1 := ⟨fu - 1, by omega⟩
  rw [topic_Name_l4, cond_f (by simp; omega), List.drop_eq_nil_of_le (by omega)]
  simp; omega
 | succ k ih =>
  intro i fu hi hf
  obtain ⟨fu, rfl⟩ : ∃ n, fu = n + 1 := ⟨fu - 1, by omega⟩
  by_cases h : i < s.length
  ·rw [topic_Name_l4, cond_t (by simpa using h), name_j, all_drop h]
   by_cases lo : s[i].toNat < 128
   ·rw [dec_lo h lo]
    simp only
    have h0 : i = 0 → s.getD 0 0 = s[i] := by rintro rfl; rw [getD_at hs]
    by_cases c1 : 97 ≤ s[i].toNat ∧ s[i].toNat ≤ 122
    ·have e1 : lowB s[i] = true := by simp [lowB, c1]
     rw [if_pos c1, ih (i + 1) fu (by omega) (by omega)]
     by_cases hz : i = 0
     ·rw [h0 hz, e1]; simp [nameC, e1]
     ·simp [nameC, e1, hz]
    ·have e1 : lowB s[i] = false := by simp [lowB]; omega
     rw [if_neg c1]
     by_cases hz : i = 0
     ·rw [if_pos hz, h0 hz, e1]; simp [hz]
     ·rw [if_neg hz]
      by_cases c2 : s[i].toNat = 45 ∨ (48 ≤ s[i].toNat ∧ s[i].toNat ≤ 57)
      ·rw [if_pos c2, ih (i + 1) fu (by omega) (by omega)]
       have e2 : nameC s[i] = true := by
        simp only [nameC, digB, Bool.or_eq_true, Bool.and_eq_true, decide_eq_true_eq]; omega
       simp [e2, hz]
      ·rw [if_neg c2]
       have e2 : nameC s[i] = false := by
        simp only [nameC, e1, digB, Bool.false_or, Bool.or_eq_false_iff, Bool.and_eq_false_iff, decide_eq_false_iff_not]; omega
       simp [e2]
   ·have hd := dec_hi h (by omega)
    have e2 : nameC s[i] = false := by
     simp only [nameC, lowB, digB, Bool.or_eq_false_iff, Bool.and_eq_false_iff, decide_eq_false_iff_not]; omega
    rw [if_neg (by omega)]
    by_cases hz : i = 0
    ·rw [if_pos hz]; simp [e2]
    ·rw [if_neg hz, if_neg (by omega)]; simp [e2]
  ·rw [topic_Name_l4, cond_f (by simpa using h), List.drop_eq_nil_of_le (by omega)]
   simp; omega
theorem name_eq (s : Str) (hl : s.length < 1000000000000000) : topic_Name s = some (nameB s) := by
 unfold topic_Name nameB
 by_cases c1 : s.length < 1
 ·rw [cond_t (by simp; omega)]; simp; omega
 ·rw [cond_f (by simp; omega)]
  by_cases c2 : s.length > 16
  ·rw [cond_t (by simp; omega)]; simp; omega
  ·rw [cond_f (by simp; omega)]
   unfold topic_Name_j3
   rw [name_l s (by omega) s.length 0 fuel (by omega) (by rw [fuel_eq]; omega)]
   have e1 : decide (1 ≤ s.length) = true := by simp; omega
   have e2 : decide (s.length ≤ 16) = true := by simp; omega
   simp [e1, e2, Bool.and_comm]
end Md
end PX
