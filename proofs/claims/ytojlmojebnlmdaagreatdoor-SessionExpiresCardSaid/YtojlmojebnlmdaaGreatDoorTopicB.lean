import Derived.Test.YtojlmojebnlmdaaGreatDoorTopicA
set_option linter.unusedVariables false
set_option linter.unusedSimpArgs false
namespace PX
open Go
namespace Md
theorem drop_nil {α : Type} (l : List α) (n : Nat) (h : l.length ≤ n) : l.drop n = [] := List.drop_eq_nil_of_le h
theorem adD {s : Str} {i : Nat} (h : i < s.length) : List.getD s (Int.toNat (i : Int)) 0 = s[i] := by rw [Int.toNat_natCast, ajl h]
theorem aid (b : UInt8) : jY (UInt8.toNat b : Int) = some (aew b) := by
 unfold jY aew
 by_cases c : 97 ≤ b.toNat
 ·rw [aT (by simp; omega)]
  have e : decide (97 ≤ b.toNat) = true := by simpa using c
  rw [e, Bool.true_and]; congr 1; simp <;> omega
 ·rw [bE (by simp; omega)]
  have e : decide (97 ≤ b.toNat) = false := by simpa using c
  rw [e, Bool.false_and]
theorem alZ (b : UInt8) : lK (UInt8.toNat b : Int) = some (aie b) := by
 unfold lK aie
 by_cases c : 48 ≤ b.toNat
 ·rw [aT (by simp; omega)]
  have e : decide (48 ≤ b.toNat) = true := by simpa using c
  rw [e, Bool.true_and]; congr 1; simp <;> omega
 ·rw [bE (by simp; omega)]
  have e : decide (48 ≤ b.toNat) = false := by simpa using c
  rw [e, Bool.false_and]
theorem ajT (s : Str) (hl : s.length < 1000000000000000) : ∀ (k i fu : Nat), i + k = s.length → k < fu → dS fu s (i : Int) = some ((s.drop i).all ace) := by
 intro k
 induction k with
 | zero =>
  intro i fu hi hf
  obtain ⟨fu, rfl⟩ : ∃ n, fu = n + 1 := ⟨fu - 1, by omega⟩
  rw [dS, bE (v8 (by omega)), List.drop_eq_nil_of_le (by omega)]; rfl
 | succ k ih =>
  intro i fu hi hf
  obtain ⟨fu, rfl⟩ : ∃ n, fu = n + 1 := ⟨fu - 1, by omega⟩
  have h : i < s.length := by omega
  rw [dS, aT (n4 h), aT (inr h), adD h, gW (aid _), am7 h, dC (by omega), ih (i + 1) fu (by omega) (by omega)]
  unfold ace
  cases c1 : aew s[i]
  ·rw [aT (by rfl), aT (inr h), gW (alZ _)]
   cases c2 : aie s[i]
   ·rw [aT (by rfl), aT (inr h)]
    by_cases c3 : s[i].toNat = 45
    ·rw [bE (by simp; omega)]; simp [c3]
    ·rw [aT (by simp; omega)]; simp [c3]
   ·rw [bE (by rfl)]; simp
  ·rw [bE (by rfl)]; simp
theorem uW (s : Str) (hl : s.length < 1000000000000000) : hR s = some (tD s) := by
 unfold hR tD
 by_cases c1 : s.length < 1
 ·rw [aT (by simp; omega)]; simp; omega
 ·rw [bE (by simp; omega)]
  by_cases c2 : s.length > 16
  ·rw [aT (by simp; omega)]; simp; omega
  ·have e1 : decide (1 ≤ s.length) = true := by simp; omega
   have e2 : decide (s.length ≤ 16) = true := by simp; omega
   rw [bE (by simp; omega), aT (by simp; omega), gW (aid _), e1, e2]
   have e3 : List.getD s (Int.toNat 0) 0 = s.getD 0 0 := rfl
   rw [e3]
   cases c3 : aew (s.getD 0 0)
   ·rw [aT (by rfl)]; simp
   ·rw [bE (by rfl)]
    unfold mY
    have := ajT s hl s.length 0 fuel (by omega) (by rw [o8]; omega)
    rw [show ((0 : Nat) : Int) = 0 from rfl] at this
    rw [this]; simp
theorem aq8 (s : Str) (hl : s.length < 1000000000000000) (c : UInt8) : ∀ (k i fu : Nat), i + k = s.length → k < fu → hJ fu s (c.toNat : Int) (i : Int) = some ((s.drop i).contains c) := by
 intro k
 induction k with
 | zero =>
  intro i fu hi hf
  obtain ⟨fu, rfl⟩ : ∃ n, fu = n + 1 := ⟨fu - 1, by omega⟩
  rw [hJ, bE (v8 (by omega)), List.drop_eq_nil_of_le (by omega)]; rfl
 | succ k ih =>
  intro i fu hi hf
  obtain ⟨fu, rfl⟩ : ∃ n, fu = n + 1 := ⟨fu - 1, by omega⟩
  have h : i < s.length := by omega
  rw [hJ, aT (n4 h), aT (inr h), adD h, dC (by omega), ih (i + 1) fu (by omega) (by omega), List.drop_eq_getElem_cons h, List.contains_cons]
  by_cases e : s[i] = c
  ·rw [aT (by simp [e])]; simp [e]
  ·have e2 : ¬ s[i].toNat = c.toNat := fun h => e (UInt8.toNat.inj h)
   rw [bE (by simp; omega)]
   have e3 : (c == s[i]) = false := by simp; exact fun h => e h.symm
   simp [e3]
theorem adb (s : Str) (hl : s.length < 1000000000000000) (c : UInt8) {n : Int} (hn : n = (c.toNat : Int)) : gK s n = some (s.contains c) := by
 subst hn
 have := aq8 s hl c s.length 0 fuel (by omega) (by rw [o8]; omega)
 simpa [gK] using this
def sizedB (s : Str) : Bool := decide (1 ≤ s.length) && decide (s.length ≤ 64) && !(s.contains 0) && decide (s.count 47 + 1 ≤ 8)
def cZ : Str → List Str
 | [] => [[]]
 | b :: r => if b = 47 then [] :: cZ r else match cZ r with | [] => [[b]] | h :: t => (b :: h) :: t
theorem tA (s : Str) : cZ s ≠ [] := by
 cases s with
 | nil => simp [cZ]
 | cons b r => simp only [cZ]; split <;> (try simp); split <;> simp
theorem aah : ∀ s : Str, (cZ s).length = s.count 47 + 1
 | [] => by simp [cZ]
 | b :: r => by
  have ih := aah r
  simp only [cZ, List.count_cons]
  by_cases h : b = 47
  ·simp [h, ih]
  ·rw [if_neg h]
   have hb : (b == 47) = false := by simpa using h
   cases hr : cZ r with
   | nil => exact absurd hr (tA r)
   | cons x t => rw [hr] at ih; simp [hb] at ih ⊢; omega
def aam (p : Str) : List Str → List Str
 | [] => [p]
 | h :: t => (p ++ h) :: t
theorem ajW (p r : Str) : aam p (cZ (47 :: r)) = p :: cZ r := by simp [cZ, aam]
theorem alp (p r : Str) {b : UInt8} (h : b ≠ 47) : aam p (cZ (b :: r)) = aam (p ++ [b]) (cZ r) := by
 simp only [cZ, if_neg h]
 cases hr : cZ r with
 | nil => exact absurd hr (tA r)
 | cons x t => simp [aam]
theorem anY (s : Str) {a i : Nat} (h1 : a ≤ i) (h2 : i ≤ s.length) : bU s (some (a : Int)) (some (i : Int)) = (s.take i).drop a := by simp [bU]
theorem alX (s : Str) {a i : Nat} (h1 : a ≤ i) (h2 : i < s.length) : (s.take i).drop a ++ [s[i]] = (s.take (i + 1)).drop a := by
 rw [← ac1 h2, List.drop_append_of_le_length (by simp; omega)]
theorem aiM (s : Str) (hl : s.length < 1000000) : ∀ (k i fu a : Nat) (acc : List Str), i + k = s.length → k < fu → a ≤ i → acc.length ≤ i →
  dW fu s (a : Int) (i : Int) acc = some (acc ++ aam ((s.take i).drop a) (cZ (s.drop i))) := by
 intro k
 induction k with
 | zero =>
  intro i fu a acc hi hf ha hacc
  obtain ⟨fu, rfl⟩ : ∃ n, fu = n + 1 := ⟨fu - 1, by omega⟩
  have e : bU s (some (a : Int)) none = (s.take i).drop a := by simp [bU, List.take_of_length_le (show s.length ≤ i by omega)]
  rw [dW, bE (v8 (by omega)), aT (by simp; omega), e, aT (by simp; omega), drop_nil s i (by omega)]
  simp [cZ, aam]
 | succ k ih =>
  intro i fu a acc hi hf ha hacc
  obtain ⟨fu, rfl⟩ : ∃ n, fu = n + 1 := ⟨fu - 1, by omega⟩
  have h : i < s.length := by omega
  rw [dW, aT (n4 h), aT (inr h), adD h, dC (by omega), List.drop_eq_getElem_cons (l := s) h]
  by_cases c : s[i].toNat = 47
  ·have e : s[i] = 47 := UInt8.toNat.inj (by simpa using c)
   rw [aT (by simp; omega), aT (by simp; omega), aT (by simp; omega), anY s ha (by omega), aT (by simp; omega), ih (i + 1) fu (i + 1) _ (by omega) (by omega) (by omega) (by simp; omega), e, ajW]
   rw [drop_nil (s.take (i + 1)) _ (by simp; omega)]
   cases hr : cZ (s.drop (i + 1)) with
   | nil => exact absurd hr (tA _)
   | cons x t => simp [aam]
  ·have e : s[i] ≠ 47 := fun h => c (by rw [h]; rfl)
   rw [bE (by simp; omega), ih (i + 1) fu a acc (by omega) (by omega) (by omega) (by omega), alp _ _ e, alX s ha h]
theorem ach (s : Str) (hl : s.length < 1000000) : kQ s = some (cZ s) := by
 have := aiM s hl s.length 0 fuel 0 [] (by omega) (by rw [o8]; omega) (by omega) (by simp)
 have e : aam [] (cZ s) = cZ s := by
  cases hr : cZ s with
  | nil => exact absurd hr (tA _)
  | cons x t => simp [aam]
 simp only [List.drop_zero, List.take_zero, List.drop_nil, List.nil_append, e] at this
 exact this
theorem ac5 (s : Str) : j1 s = some (sizedB s) := by
 unfold j1 sizedB
 by_cases c1 : s.length < 1
 ·rw [bE (by simp; omega)]; simp; omega
 ·rw [aT (by simp; omega)]
  by_cases c2 : s.length > 64
  ·rw [bE (by simp; omega)]; simp; omega
  ·have e1 : decide (1 ≤ s.length) = true := by simp; omega
   have e2 : decide (s.length ≤ 64) = true := by simp; omega
   rw [aT (by simp; omega), gW (adb s (by omega) 0 (n := 0) rfl), e1, e2, Bool.true_and, Bool.true_and]
   cases s.contains 0
   ·rw [aT (by rfl), gW (ach s (by omega)), aah]
    simp; omega
   ·rw [bE (by rfl)]; rfl
def aiA (s : Str) : Bool := sizedB s && !(s.contains 43) && !(s.contains 35)
theorem afg {s : Str} (h : sizedB s = true) : 1 ≤ s.length ∧ s.length ≤ 64 := by
 simp only [sizedB, Bool.and_eq_true, decide_eq_true_eq] at h
 exact ⟨h.1.1.1, h.1.1.2⟩
theorem aic (s : Str) : lU s = some (aiA s) := by
 unfold lU aiA
 rw [gW (ac5 s)]
 cases h : sizedB s
 ·rw [bE (by rfl)]; rfl
 ·have := afg h
  rw [aT (by rfl), gW (adb s (by omega) 43 (n := 43) rfl)]
  cases s.contains 43
  ·rw [aT (by rfl), gW (adb s (by omega) 35 (n := 35) rfl)]; rfl
  ·rw [bE (by rfl)]; rfl
end Md
end PX
