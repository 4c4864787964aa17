import Derived.Test.YtojlmojebnlmdaaGreatDoorTopicA
set_option linter.unusedVariables false
set_option linter.unusedSimpArgs false
namespace PX
open Go
namespace Md
theorem drop_nil {α : Type} (l : List α) (n : Nat) (h : l.length ≤ n) : l.drop n = [] := List.drop_eq_nil_of_le h
theorem aep {s : Str} {i : Nat} (h : i < s.length) : List.getD s (Int.toNat (i : Int)) 0 = s[i] := by rw [Int.toNat_natCast, akq h]
theorem aiP (b : UInt8) : kB (UInt8.toNat b : Int) = some (afP b) := by
 unfold kB afP
 by_cases c : 97 ≤ b.toNat
 ·rw [aR (by simp; omega)]
  have e : decide (97 ≤ b.toNat) = true := by simpa using c
  rw [e, Bool.true_and]; congr 1; simp <;> omega
 ·rw [bD (by simp; omega)]
  have e : decide (97 ≤ b.toNat) = false := by simpa using c
  rw [e, Bool.false_and]
theorem anr (b : UInt8) : l7 (UInt8.toNat b : Int) = some (aiY b) := by
 unfold l7 aiY
 by_cases c : 48 ≤ b.toNat
 ·rw [aR (by simp; omega)]
  have e : decide (48 ≤ b.toNat) = true := by simpa using c
  rw [e, Bool.true_and]; congr 1; simp <;> omega
 ·rw [bD (by simp; omega)]
  have e : decide (48 ≤ b.toNat) = false := by simpa using c
  rw [e, Bool.false_and]
theorem ak8 (s : Str) (hl : s.length < 1000000000000000) : ∀ (k i fu : Nat), i + k = s.length → k < fu → dU fu s (i : Int) = some ((s.drop i).all acs) := by
 intro k
 induction k with
 | zero =>
  intro i fu hi hf
  obtain ⟨fu, rfl⟩ : ∃ n, fu = n + 1 := ⟨fu - 1, by omega⟩
  rw [dU, bD (xC (by omega)), List.drop_eq_nil_of_le (by omega)]; rfl
 | succ k ih =>
  intro i fu hi hf
  obtain ⟨fu, rfl⟩ : ∃ n, fu = n + 1 := ⟨fu - 1, by omega⟩
  have h : i < s.length := by omega
  rw [dU, aR (nK h), aR (inr h), aep h, eE (aiP _), anE h, dA (by omega), ih (i + 1) fu (by omega) (by omega)]
  unfold acs
  cases c1 : afP s[i]
  ·rw [aR (by rfl), aR (inr h), eE (anr _)]
   cases c2 : aiY s[i]
   ·rw [aR (by rfl), aR (inr h)]
    by_cases c3 : s[i].toNat = 45
    ·rw [bD (by simp; omega)]; simp [c3]
    ·rw [aR (by simp; omega)]; simp [c3]
   ·rw [bD (by rfl)]; simp
  ·rw [bD (by rfl)]; simp
theorem wA (s : Str) (hl : s.length < 1000000000000000) : iB s = some (uK s) := by
 unfold iB uK
 by_cases c1 : s.length < 1
 ·rw [aR (by simp; omega)]; simp; omega
 ·rw [bD (by simp; omega)]
  by_cases c2 : s.length > 16
  ·rw [aR (by simp; omega)]; simp; omega
  ·have e1 : decide (1 ≤ s.length) = true := by simp; omega
   have e2 : decide (s.length ≤ 16) = true := by simp; omega
   rw [bD (by simp; omega), aR (by simp; omega), eE (aiP _), e1, e2]
   have e3 : List.getD s (Int.toNat 0) 0 = s.getD 0 0 := rfl
   rw [e3]
   cases c3 : afP (s.getD 0 0)
   ·rw [aR (by rfl)]; simp
   ·rw [bD (by rfl)]
    unfold nU
    have := ak8 s hl s.length 0 fuel (by omega) (by rw [p8]; omega)
    rw [show ((0 : Nat) : Int) = 0 from rfl] at this
    rw [this]; simp
theorem arV (s : Str) (hl : s.length < 1000000000000000) (c : UInt8) : ∀ (k i fu : Nat), i + k = s.length → k < fu → iD fu s (c.toNat : Int) (i : Int) = some ((s.drop i).contains c) := by
 intro k
 induction k with
 | zero =>
  intro i fu hi hf
  obtain ⟨fu, rfl⟩ : ∃ n, fu = n + 1 := ⟨fu - 1, by omega⟩
  rw [iD, bD (xC (by omega)), List.drop_eq_nil_of_le (by omega)]; rfl
 | succ k ih =>
  intro i fu hi hf
  obtain ⟨fu, rfl⟩ : ∃ n, fu = n + 1 := ⟨fu - 1, by omega⟩
  have h : i < s.length := by omega
  rw [iD, aR (nK h), aR (inr h), aep h, dA (by omega), ih (i + 1) fu (by omega) (by omega), List.drop_eq_getElem_cons h, List.contains_cons]
  by_cases e : s[i] = c
  ·rw [aR (by simp [e])]; simp [e]
  ·have e2 : ¬ s[i].toNat = c.toNat := fun h => e (UInt8.toNat.inj h)
   rw [bD (by simp; omega)]
   have e3 : (c == s[i]) = false := by simp; exact fun h => e h.symm
   simp [e3]
theorem ad5 (s : Str) (hl : s.length < 1000000000000000) (c : UInt8) {n : Int} (hn : n = (c.toNat : Int)) : gZ s n = some (s.contains c) := by
 subst hn
 have := arV s hl c s.length 0 fuel (by omega) (by rw [p8]; omega)
 simpa [gZ] using this
def sizedB (s : Str) : Bool := decide (1 ≤ s.length) && decide (s.length ≤ 64) && !(s.contains 0) && decide (s.count 47 + 1 ≤ 8)
def cX : Str → List Str
 | [] => [[]]
 | b :: r => if b = 47 then [] :: cX r else match cX r with | [] => [[b]] | h :: t => (b :: h) :: t
theorem uC (s : Str) : cX s ≠ [] := by
 cases s with
 | nil => simp [cX]
 | cons b r => simp only [cX]; split <;> (try simp); split <;> simp
theorem aa4 : ∀ s : Str, (cX s).length = s.count 47 + 1
 | [] => by simp [cX]
 | b :: r => by
  have ih := aa4 r
  simp only [cX, List.count_cons]
  by_cases h : b = 47
  ·simp [h, ih]
  ·rw [if_neg h]
   have hb : (b == 47) = false := by simpa using h
   cases hr : cX r with
   | nil => exact absurd hr (uC r)
   | cons x t => rw [hr] at ih; simp [hb] at ih ⊢; omega
def aa2 (p : Str) : List Str → List Str
 | [] => [p]
 | h :: t => (p ++ h) :: t
theorem akS (p r : Str) : aa2 p (cX (47 :: r)) = p :: cX r := by simp [cX, aa2]
theorem alV (p r : Str) {b : UInt8} (h : b ≠ 47) : aa2 p (cX (b :: r)) = aa2 (p ++ [b]) (cX r) := by
 simp only [cX, if_neg h]
 cases hr : cX r with
 | nil => exact absurd hr (uC r)
 | cons x t => simp [aa2]
theorem apm (s : Str) {a i : Nat} (h1 : a ≤ i) (h2 : i ≤ s.length) : bO s (some (a : Int)) (some (i : Int)) = (s.take i).drop a := by simp [bO]
theorem aol (s : Str) {a i : Nat} (h1 : a ≤ i) (h2 : i < s.length) : (s.take i).drop a ++ [s[i]] = (s.take (i + 1)).drop a := by
 rw [← aau h2, List.drop_append_of_le_length (by simp; omega)]
theorem ajE (s : Str) (hl : s.length < 1000000) : ∀ (k i fu a : Nat) (acc : List Str), i + k = s.length → k < fu → a ≤ i → acc.length ≤ i →
  dV fu s (a : Int) (i : Int) acc = some (acc ++ aa2 ((s.take i).drop a) (cX (s.drop i))) := by
 intro k
 induction k with
 | zero =>
  intro i fu a acc hi hf ha hacc
  obtain ⟨fu, rfl⟩ : ∃ n, fu = n + 1 := ⟨fu - 1, by omega⟩
  have e : bO s (some (a : Int)) none = (s.take i).drop a := by simp [bO, List.take_of_length_le (show s.length ≤ i by omega)]
  rw [dV, bD (xC (by omega)), aR (by simp; omega), e, aR (by simp; omega), drop_nil s i (by omega)]
  simp [cX, aa2]
 | succ k ih =>
  intro i fu a acc hi hf ha hacc
  obtain ⟨fu, rfl⟩ : ∃ n, fu = n + 1 := ⟨fu - 1, by omega⟩
  have h : i < s.length := by omega
  rw [dV, aR (nK h), aR (inr h), aep h, dA (by omega), List.drop_eq_getElem_cons (l := s) h]
  by_cases c : s[i].toNat = 47
  ·have e : s[i] = 47 := UInt8.toNat.inj (by simpa using c)
   rw [aR (by simp; omega), aR (by simp; omega), aR (by simp; omega), apm s ha (by omega), aR (by simp; omega), ih (i + 1) fu (i + 1) _ (by omega) (by omega) (by omega) (by simp; omega), e, akS]
   rw [drop_nil (s.take (i + 1)) _ (by simp; omega)]
   cases hr : cX (s.drop (i + 1)) with
   | nil => exact absurd hr (uC _)
   | cons x t => simp [aa2]
  ·have e : s[i] ≠ 47 := fun h => c (by rw [h]; rfl)
   rw [bD (by simp; omega), ih (i + 1) fu a acc (by omega) (by omega) (by omega) (by omega), alV _ _ e, aol s ha h]
theorem ac4 (s : Str) (hl : s.length < 1000000) : lB s = some (cX s) := by
 have := ajE s hl s.length 0 fuel 0 [] (by omega) (by rw [p8]; omega) (by omega) (by simp)
 have e : aa2 [] (cX s) = cX s := by
  cases hr : cX s with
  | nil => exact absurd hr (uC _)
  | cons x t => simp [aa2]
 simp only [List.drop_zero, List.take_zero, List.drop_nil, List.nil_append, e] at this
 exact this
theorem ad6 (s : Str) : kF s = some (sizedB s) := by
 unfold kF sizedB
 by_cases c1 : s.length < 1
 ·rw [bD (by simp; omega)]; simp; omega
 ·rw [aR (by simp; omega)]
  by_cases c2 : s.length > 64
  ·rw [bD (by simp; omega)]; simp; omega
  ·have e1 : decide (1 ≤ s.length) = true := by simp; omega
   have e2 : decide (s.length ≤ 64) = true := by simp; omega
   rw [aR (by simp; omega), eE (ad5 s (by omega) 0 (n := 0) rfl), e1, e2, Bool.true_and, Bool.true_and]
   cases s.contains 0
   ·rw [aR (by rfl), eE (ac4 s (by omega)), aa4]
    simp; omega
   ·rw [bD (by rfl)]; rfl
def ajA (s : Str) : Bool := sizedB s && !(s.contains 43) && !(s.contains 35)
theorem agx {s : Str} (h : sizedB s = true) : 1 ≤ s.length ∧ s.length ≤ 64 := by
 simp only [sizedB, Bool.and_eq_true, decide_eq_true_eq] at h
 exact ⟨h.1.1.1, h.1.1.2⟩
theorem ajM (s : Str) : mC s = some (ajA s) := by
 unfold mC ajA
 rw [eE (ad6 s)]
 cases h : sizedB s
 ·rw [bD (by rfl)]; rfl
 ·have := agx h
  rw [aR (by rfl), eE (ad5 s (by omega) 43 (n := 43) rfl)]
  cases s.contains 43
  ·rw [aR (by rfl), eE (ad5 s (by omega) 35 (n := 35) rfl)]; rfl
  ·rw [bD (by rfl)]; rfl
end Md
end PX
