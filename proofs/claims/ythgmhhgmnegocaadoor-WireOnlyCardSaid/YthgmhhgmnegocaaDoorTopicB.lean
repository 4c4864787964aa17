import Derived.Test.YthgmhhgmnegocaaDoorTopicA
set_option linter.unusedVariables false
set_option linter.unusedSimpArgs false
namespace PX
open Go
namespace Md
theorem apv {s : Str} {i : Nat} (h : i < s.length) : List.getD s (Int.toNat (i : Int)) 0 = s[i] := by rw [Int.toNat_natCast, agr h]
def sizedB (s : Str) : Bool := decide (1 ≤ s.length) && decide (s.length ≤ 64) && !(s.contains 0) && decide (s.count 47 + 1 ≤ 8)
theorem aof (s : Str) : ∀ (k i fu c : Nat), s.length - i ≤ k → k < fu → c + k < 1000000000 → gU fu (c : Int) s i = some (!((s.drop i).contains 0) && decide (c + (s.drop i).count 47 ≤ 8)) := by
 intro k
 induction k with
 | zero =>
  intro i fu c hi hf hc
  obtain ⟨fu, rfl⟩ : ∃ n, fu = n + 1 := ⟨fu - 1, by omega⟩
  have ec : decide ((c : Int) ≤ 8) = decide (c ≤ 8) := by rw [decide_eq_decide]; omega
  rw [gU, aO (by simp; omega), List.drop_eq_nil_of_le (by omega), ec]; simp <;> exact decide_eq_decide.2 Iff.rfl
 | succ k ih =>
  intro i fu c hi hf hc
  obtain ⟨fu, rfl⟩ : ∃ n, fu = n + 1 := ⟨fu - 1, by omega⟩
  by_cases h : i < s.length
  ·rw [gU, aK (by simpa using h)]
   by_cases lo : s[i].toNat < 128
   ·rw [afc h lo, List.drop_eq_getElem_cons h, List.contains_cons, List.count_cons]
    simp only
    by_cases c0 : s[i].toNat = 0
    ·have e : s[i] = 0 := UInt8.toNat.inj (by simpa using c0)
     rw [aK (by simp; omega)]; simp [e]
    ·have e : (0 == s[i]) = false := by simp; intro h; rw [← h] at c0; simp at c0
     rw [aO (by simp; omega), e, Bool.false_or]
     by_cases c1 : s[i].toNat = 47
     ·have e1 : s[i] = 47 := UInt8.toNat.inj (by simpa using c1)
      rw [aK (by simp; omega), cQ (by omega), ih (i + 1) fu (c + 1) (by omega) (by omega) (by omega)]
      simp only [e1, beq_self_eq_true, if_true]
      rw [show c + 1 + List.count 47 (List.drop (i + 1) s) = c + (List.count 47 (List.drop (i + 1) s) + 1) by omega]
     ·have e1 : (s[i] == 47) = false := by simp; intro h; rw [h] at c1; simp at c1
      rw [aO (by simp; omega), ih (i + 1) fu c (by omega) (by omega) (by omega)]
      simp [e1]
   ·obtain ⟨t, ht, hh⟩ := aeR h (by omega)
    have hd := acp h (by omega)
    rw [aO (by simp; omega), aO (by simp; omega), ih (i + (dec s i).2) fu c (by omega) (by omega) (by omega), ht, oV hh (by decide), akf hh (by decide)]
  ·have ec : decide ((c : Int) ≤ 8) = decide (c ≤ 8) := by rw [decide_eq_decide]; omega
   rw [gU, aO (by simpa using h), List.drop_eq_nil_of_le (by omega), ec]; simp <;> exact decide_eq_decide.2 Iff.rfl
theorem ah4 (s : Str) : oY s = some (sizedB s) := by
 unfold oY sizedB
 by_cases c1 : s.length < 1
 ·rw [aK (by simp; omega)]; simp; omega
 ·rw [aO (by simp; omega)]
  by_cases c2 : s.length > 64
  ·rw [aK (by simp; omega)]; simp; omega
  ·have e1 : decide (1 ≤ s.length) = true := by simp; omega
   have e2 : decide (s.length ≤ 64) = true := by simp; omega
   rw [aO (by simp; omega), e1, e2]
   unfold qY
   have := aof s s.length 0 fuel 1 (by omega) (by rw [lP]; omega) (by omega)
   rw [show ((1 : Nat) : Int) = 1 from rfl] at this
   rw [this]; simp [Nat.add_comm]
def dA : Str → List Str
 | [] => [[]]
 | b :: r => if b = 47 then [] :: dA r else match dA r with | [] => [[b]] | h :: t => (b :: h) :: t
theorem abB (s : Str) : dA s ≠ [] := by
 cases s with
 | nil => simp [dA]
 | cons b r => simp only [dA]; split <;> (try simp); split <;> simp
theorem aed : ∀ s : Str, (dA s).length = s.count 47 + 1
 | [] => by simp [dA]
 | b :: r => by
  have ih := aed r
  simp only [dA, List.count_cons]
  by_cases h : b = 47
  ·simp [h, ih]
  ·rw [if_neg h]
   have hb : (b == 47) = false := by simpa using h
   cases hr : dA r with
   | nil => exact absurd hr (abB r)
   | cons x t => rw [hr] at ih; simp [hb] at ih ⊢; omega
def aiA (p : Str) : List Str → List Str
 | [] => [p]
 | h :: t => (p ++ h) :: t
def tD (s : Str) : Bool := sizedB s && !(s.contains 43) && !(s.contains 35)
theorem an4 (s : Str) : ∀ (k i fu : Nat), s.length - i ≤ k → k < fu → iI fu s i = some (!((s.drop i).contains 43) && !((s.drop i).contains 35)) := by
 intro k
 induction k with
 | zero =>
  intro i fu hi hf
  obtain ⟨fu, rfl⟩ : ∃ n, fu = n + 1 := ⟨fu - 1, by omega⟩
  rw [iI, aO (by simp; omega), List.drop_eq_nil_of_le (by omega)]; rfl
 | succ k ih =>
  intro i fu hi hf
  obtain ⟨fu, rfl⟩ : ∃ n, fu = n + 1 := ⟨fu - 1, by omega⟩
  by_cases h : i < s.length
  ·rw [iI, aK (by simpa using h)]
   by_cases lo : s[i].toNat < 128
   ·rw [afc h lo, List.drop_eq_getElem_cons h, List.contains_cons, List.contains_cons]
    simp only
    by_cases c0 : s[i].toNat = 43
    ·have e : s[i] = 43 := UInt8.toNat.inj (by simpa using c0)
     rw [aK (by simp; omega)]; simp [e]
    ·have e : (43 == s[i]) = false := by simp; intro h; rw [← h] at c0; simp at c0
     rw [aO (by simp; omega), e, Bool.false_or]
     by_cases c1 : s[i].toNat = 35
     ·have e1 : s[i] = 35 := UInt8.toNat.inj (by simpa using c1)
      rw [aK (by simp; omega)]; simp [e1]
     ·have e1 : (35 == s[i]) = false := by simp; intro h; rw [← h] at c1; simp at c1
      rw [aO (by simp; omega), ih (i + 1) fu (by omega) (by omega), e1, Bool.false_or]
   ·obtain ⟨t, ht, hh⟩ := aeR h (by omega)
    have hd := acp h (by omega)
    rw [aO (by simp; omega), aO (by simp; omega), ih (i + (dec s i).2) fu (by omega) (by omega), ht, oV hh (by decide), oV hh (by decide)]
  ·rw [iI, aO (by simpa using h), List.drop_eq_nil_of_le (by omega)]; rfl
theorem afb {s : Str} (h : sizedB s = true) : 1 ≤ s.length ∧ s.length ≤ 64 := by
 simp only [sizedB, Bool.and_eq_true, decide_eq_true_eq] at h
 exact ⟨h.1.1.1, h.1.1.2⟩
theorem ahZ (s : Str) : rO s = some (tD s) := by
 unfold rO tD
 rw [fW (ah4 s)]
 cases h : sizedB s
 ·rw [aK (by rfl)]; rfl
 ·have := afb h
  rw [aO (by rfl), an4 s s.length 0 fuel (by omega) (by rw [lP]; omega)]
  simp
end Md
end PX
