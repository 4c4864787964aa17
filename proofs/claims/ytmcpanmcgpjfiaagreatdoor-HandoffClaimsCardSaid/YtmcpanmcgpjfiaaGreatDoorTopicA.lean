import Derived.Test.YtmcpanmcgpjfiaaGreatDoorMod
import Derived.Test.YtmcpanmcgpjfiaaGreatDoorPXd
set_option linter.unusedVariables false
set_option linter.unusedSimpArgs false
namespace PX
open Go
namespace Md
def aaf (b : UInt8) : Bool := decide (97 ≤ b.toNat) && decide (b.toNat ≤ 122)
def agC (b : UInt8) : Bool := decide (48 ≤ b.toNat) && decide (b.toNat ≤ 57)
def pV (b : UInt8) : Bool := aaf b || agC b || decide (b.toNat = 45)
def oC (s : Str) : Bool := decide (1 ≤ s.length) && decide (s.length ≤ 16) && aaf (s.getD 0 0) && s.all pV
theorem alQ {s : Str} {i : Nat} (h : i < s.length) (f : UInt8 → Bool) : (s.drop i).all f = (f s[i] && (s.drop (i + 1)).all f) := by
 rw [List.drop_eq_getElem_cons h, List.all_cons]
theorem axi (k4 : Str → Nat → Option Bool) (i v w : Nat) (s : Str) :
  (cond (decide ((v : Int) ≥ 97)) (nP k4 (i : Int) (v : Int) (decide ((v : Int) ≤ 122)) s (i + w)) (nP k4 (i : Int) (v : Int) false s (i + w))) =
   if 97 ≤ v ∧ v ≤ 122 then k4 s (i + w) else if i = 0 then some false else if v = 45 ∨ (48 ≤ v ∧ v ≤ 57) then k4 s (i + w) else some false := by
 unfold nP
 by_cases c1 : 97 ≤ v
 ·rw [aT (by simp; omega)]
  by_cases c2 : v ≤ 122
  ·rw [if_pos ⟨c1, c2⟩, bE (by simp; omega)]
  ·rw [if_neg (by omega), aT (by simp; omega)]
   by_cases c3 : i = 0
   ·rw [if_pos c3, aT (by simpa using c3)]
   ·rw [if_neg c3, bE (by simpa using c3), if_neg (by omega), aT (by simp; omega), bE (by simp; omega), aT (by simp; omega)]
 ·rw [bE (by simp; omega), if_neg (by omega), aT (by rfl)]
  by_cases c3 : i = 0
  ·rw [if_pos c3, aT (by simpa using c3)]
  ·rw [if_neg c3, bE (by simpa using c3)]
   by_cases c4 : v = 45
   ·rw [if_pos (.inl c4), bE (by simp; omega)]
   ·rw [aT (by simp; omega)]
    by_cases c5 : v < 48
    ·rw [if_neg (by omega), aT (by simp; omega)]
    ·rw [bE (by simp; omega)]
     by_cases c6 : v > 57
     ·rw [if_neg (by omega), aT (by simp; omega)]
     ·rw [if_pos (by omega), bE (by simp; omega)]
theorem atZ (s : Str) (hs : 0 < s.length) : ∀ (k i fu : Nat), s.length - i ≤ k → k < fu → jW fu s i = some ((s.drop i).all pV && (decide (i ≠ 0) || aaf (s.getD 0 0))) := by
 intro k
 induction k with
 | zero =>
  intro i fu hi hf
  obtain ⟨fu, rfl⟩ : ∃ n, fu = n + 1 := ⟨fu - 1, by omega⟩
  rw [jW, bE (by simp; omega), List.drop_eq_nil_of_le (by omega)]
  simp; omega
 | succ k ih =>
  intro i fu hi hf
  obtain ⟨fu, rfl⟩ : ∃ n, fu = n + 1 := ⟨fu - 1, by omega⟩
  by_cases h : i < s.length
  ·rw [jW, aT (by simpa using h), axi, alQ h]
   by_cases lo : s[i].toNat < 128
   ·rw [aiW h lo]
    simp only
    have h0 : i = 0 → s.getD 0 0 = s[i] := by rintro rfl; rw [agL hs]
    by_cases c1 : 97 ≤ s[i].toNat ∧ s[i].toNat ≤ 122
    ·have e1 : aaf s[i] = true := by simp [aaf, c1]
     rw [if_pos c1, ih (i + 1) fu (by omega) (by omega)]
     by_cases hz : i = 0
     ·rw [h0 hz, e1]; simp [pV, e1]
     ·simp [pV, e1, hz]
    ·have e1 : aaf s[i] = false := by simp [aaf]; omega
     rw [if_neg c1]
     by_cases hz : i = 0
     ·rw [if_pos hz, h0 hz, e1]; simp [hz]
     ·rw [if_neg hz]
      by_cases c2 : s[i].toNat = 45 ∨ (48 ≤ s[i].toNat ∧ s[i].toNat ≤ 57)
      ·rw [if_pos c2, ih (i + 1) fu (by omega) (by omega)]
       have e2 : pV s[i] = true := by
        simp only [pV, agC, Bool.or_eq_true, Bool.and_eq_true, decide_eq_true_eq]; omega
       simp [e2, hz]
      ·rw [if_neg c2]
       have e2 : pV s[i] = false := by
        simp only [pV, e1, agC, Bool.false_or, Bool.or_eq_false_iff, Bool.and_eq_false_iff, decide_eq_false_iff_not]; omega
       simp [e2]
   ·have hd := agF h (by omega)
    have e2 : pV s[i] = false := by
     simp only [pV, aaf, agC, Bool.or_eq_false_iff, Bool.and_eq_false_iff, decide_eq_false_iff_not]; omega
    rw [if_neg (by omega)]
    by_cases hz : i = 0
    ·rw [if_pos hz]; simp [e2]
    ·rw [if_neg hz, if_neg (by omega)]; simp [e2]
  ·rw [jW, bE (by simpa using h), List.drop_eq_nil_of_le (by omega)]
   simp; omega
theorem adw (s : Str) (hl : s.length < 1000000000000000) : mC s = some (oC s) := by
 unfold mC oC
 by_cases c1 : s.length < 1
 ·rw [aT (by simp; omega)]; simp; omega
 ·rw [bE (by simp; omega)]
  by_cases c2 : s.length > 16
  ·rw [aT (by simp; omega)]; simp; omega
  ·rw [bE (by simp; omega)]
   unfold wR
   rw [atZ s (by omega) s.length 0 fuel (by omega) (by rw [nA]; omega)]
   have e1 : decide (1 ≤ s.length) = true := by simp; omega
   have e2 : decide (s.length ≤ 16) = true := by simp; omega
   simp [e1, e2, Bool.and_comm]
end Md
end PX
