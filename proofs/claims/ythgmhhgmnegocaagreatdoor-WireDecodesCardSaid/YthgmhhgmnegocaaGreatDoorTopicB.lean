import Derived.Test.YthgmhhgmnegocaaGreatDoorTopicA
set_option linter.unusedVariables false
set_option linter.unusedSimpArgs false
namespace PX
open Go
namespace Md
theorem drop_nil {α : Type} (l : List α) (n : Nat) (h : l.length ≤ n) : l.drop n = [] := List.drop_eq_nil_of_le h
theorem af0 {s : Str} {i : Nat} (h : i < s.length) : List.getD s (Int.toNat (i : Int)) 0 = s[i] := by rw [Int.toNat_natCast, ajg h]
theorem aoH (b : UInt8) : nK (UInt8.toNat b : Int) = some (abv b) := by
 unfold nK abv
 by_cases c : 97 ≤ b.toNat
 ·rw [aL (by simp; omega)]
  have e : decide (97 ≤ b.toNat) = true := by simpa using c
  rw [e, Bool.true_and]; congr 1; simp <;> omega
 ·rw [aQ (by simp; omega)]
  have e : decide (97 ≤ b.toNat) = false := by simpa using c
  rw [e, Bool.false_and]
theorem auW (b : UInt8) : p7 (UInt8.toNat b : Int) = some (aiA b) := by
 unfold p7 aiA
 by_cases c : 48 ≤ b.toNat
 ·rw [aL (by simp; omega)]
  have e : decide (48 ≤ b.toNat) = true := by simpa using c
  rw [e, Bool.true_and]; congr 1; simp <;> omega
 ·rw [aQ (by simp; omega)]
  have e : decide (48 ≤ b.toNat) = false := by simpa using c
  rw [e, Bool.false_and]
theorem are (s : Str) (hl : s.length < 1000000000000000) : ∀ (k i fu : Nat), i + k = s.length → k < fu → gM fu s (i : Int) = some ((s.drop i).all sH) := by
 intro k
 induction k with
 | zero =>
  intro i fu hi hf
  obtain ⟨fu, rfl⟩ : ∃ n, fu = n + 1 := ⟨fu - 1, by omega⟩
  rw [gM, aQ (pV (by omega)), List.drop_eq_nil_of_le (by omega)]; rfl
 | succ k ih =>
  intro i fu hi hf
  obtain ⟨fu, rfl⟩ : ∃ n, fu = n + 1 := ⟨fu - 1, by omega⟩
  have h : i < s.length := by omega
  rw [gM, aL (jC h), aL (inr h), af0 h, cZ (aoH _), aoc h, cD (by omega), ih (i + 1) fu (by omega) (by omega)]
  unfold sH
  cases c1 : abv s[i]
  ·rw [aL (by rfl), aL (inr h), cZ (auW _)]
   cases c2 : aiA s[i]
   ·rw [aL (by rfl), aL (inr h)]
    by_cases c3 : s[i].toNat = 45
    ·rw [aQ (by simp; omega)]; simp [c3]
    ·rw [aL (by simp; omega)]; simp [c3]
   ·rw [aQ (by rfl)]; simp
  ·rw [aQ (by rfl)]; simp
theorem zH (s : Str) (hl : s.length < 1000000000000000) : iG s = some (mL s) := by
 unfold iG mL
 by_cases c1 : s.length < 1
 ·rw [aL (by simp; omega)]; simp; omega
 ·rw [aQ (by simp; omega)]
  by_cases c2 : s.length > 16
  ·rw [aL (by simp; omega)]; simp; omega
  ·have e1 : decide (1 ≤ s.length) = true := by simp; omega
   have e2 : decide (s.length ≤ 16) = true := by simp; omega
   rw [aQ (by simp; omega), aL (by simp; omega), cZ (aoH _), e1, e2]
   have e3 : List.getD s (Int.toNat 0) 0 = s.getD 0 0 := rfl
   rw [e3]
   cases c3 : abv (s.getD 0 0)
   ·rw [aL (by rfl)]; simp
   ·rw [aQ (by rfl)]
    unfold rZ
    have := are s hl s.length 0 fuel (by omega) (by rw [iX]; omega)
    rw [show ((0 : Nat) : Int) = 0 from rfl] at this
    rw [this]; simp
theorem aCk (s : Str) (hl : s.length < 1000000000000000) (c : UInt8) : ∀ (k i fu : Nat), i + k = s.length → k < fu → kD fu s (c.toNat : Int) (i : Int) = some ((s.drop i).contains c) := by
 intro k
 induction k with
 | zero =>
  intro i fu hi hf
  obtain ⟨fu, rfl⟩ : ∃ n, fu = n + 1 := ⟨fu - 1, by omega⟩
  rw [kD, aQ (pV (by omega)), List.drop_eq_nil_of_le (by omega)]; rfl
 | succ k ih =>
  intro i fu hi hf
  obtain ⟨fu, rfl⟩ : ∃ n, fu = n + 1 := ⟨fu - 1, by omega⟩
  have h : i < s.length := by omega
  rw [kD, aL (jC h), aL (inr h), af0 h, cD (by omega), ih (i + 1) fu (by omega) (by omega), List.drop_eq_getElem_cons h, List.contains_cons]
  by_cases e : s[i] = c
  ·rw [aL (by simp [e])]; simp [e]
  ·have e2 : ¬ s[i].toNat = c.toNat := fun h => e (UInt8.toNat.inj h)
   rw [aQ (by simp; omega)]
   have e3 : (c == s[i]) = false := by simp; exact fun h => e h.symm
   simp [e3]
theorem ahU (s : Str) (hl : s.length < 1000000000000000) (c : UInt8) {n : Int} (hn : n = (c.toNat : Int)) : jX s n = some (s.contains c) := by
 subst hn
 have := aCk s hl c s.length 0 fuel (by omega) (by rw [iX]; omega)
 simpa [jX] using this
def sizedB (s : Str) : Bool := decide (1 ≤ s.length) && decide (s.length ≤ 64) && !(s.contains 0) && decide (s.count 47 + 1 ≤ 8)
theorem av9 (s : Str) : ∀ (k i fu c : Nat), s.length - i ≤ k → k < fu → c + k < 1000000000 → kO fu (c : Int) s i = some (!((s.drop i).contains 0) && decide (c + (s.drop i).count 47 ≤ 8)) := by
 intro k
 induction k with
 | zero =>
  intro i fu c hi hf hc
  obtain ⟨fu, rfl⟩ : ∃ n, fu = n + 1 := ⟨fu - 1, by omega⟩
  have ec : decide ((c : Int) ≤ 8) = decide (c ≤ 8) := by rw [decide_eq_decide]; omega
  rw [kO, aQ (by simp; omega), List.drop_eq_nil_of_le (by omega), ec]; simp <;> exact decide_eq_decide.2 Iff.rfl
 | succ k ih =>
  intro i fu c hi hf hc
  obtain ⟨fu, rfl⟩ : ∃ n, fu = n + 1 := ⟨fu - 1, by omega⟩
  by_cases h : i < s.length
  ·rw [kO, aL (by simpa using h)]
   by_cases lo : s[i].toNat < 128
   ·rw [alU h lo, List.drop_eq_getElem_cons h, List.contains_cons, List.count_cons]
    simp only
    by_cases c0 : s[i].toNat = 0
    ·have e : s[i] = 0 := UInt8.toNat.inj (by simpa using c0)
     rw [aL (by simp; omega)]; simp [e]
    ·have e : (0 == s[i]) = false := by simp; intro h; rw [← h] at c0; simp at c0
     rw [aQ (by simp; omega), e, Bool.false_or]
     by_cases c1 : s[i].toNat = 47
     ·have e1 : s[i] = 47 := UInt8.toNat.inj (by simpa using c1)
      rw [aL (by simp; omega), cD (by omega), ih (i + 1) fu (c + 1) (by omega) (by omega) (by omega)]
      simp only [e1, beq_self_eq_true, if_true]
      rw [show c + 1 + List.count 47 (List.drop (i + 1) s) = c + (List.count 47 (List.drop (i + 1) s) + 1) by omega]
     ·have e1 : (s[i] == 47) = false := by simp; intro h; rw [h] at c1; simp at c1
      rw [aQ (by simp; omega), ih (i + 1) fu c (by omega) (by omega) (by omega)]
      simp [e1]
   ·obtain ⟨t, ht, hh⟩ := akf h (by omega)
    have hd := aiI h (by omega)
    rw [aQ (by simp; omega), aQ (by simp; omega), ih (i + (dec s i).2) fu c (by omega) (by omega) (by omega), ht, vX hh (by decide), aq6 hh (by decide)]
  ·have ec : decide ((c : Int) ≤ 8) = decide (c ≤ 8) := by rw [decide_eq_decide]; omega
   rw [kO, aQ (by simpa using h), List.drop_eq_nil_of_le (by omega), ec]; simp <;> exact decide_eq_decide.2 Iff.rfl
theorem apm (s : Str) : wC s = some (sizedB s) := by
 unfold wC sizedB
 by_cases c1 : s.length < 1
 ·rw [aL (by simp; omega)]; simp; omega
 ·rw [aQ (by simp; omega)]
  by_cases c2 : s.length > 64
  ·rw [aL (by simp; omega)]; simp; omega
  ·have e1 : decide (1 ≤ s.length) = true := by simp; omega
   have e2 : decide (s.length ≤ 64) = true := by simp; omega
   rw [aQ (by simp; omega), e1, e2]
   unfold yL
   have := av9 s s.length 0 fuel 1 (by omega) (by rw [iX]; omega) (by omega)
   rw [show ((1 : Nat) : Int) = 1 from rfl] at this
   rw [this]; simp [Nat.add_comm]
def dK : Str → List Str
 | [] => [[]]
 | b :: r => if b = 47 then [] :: dK r else match dK r with | [] => [[b]] | h :: t => (b :: h) :: t
theorem aaK (s : Str) : dK s ≠ [] := by
 cases s with
 | nil => simp [dK]
 | cons b r => simp only [dK]; split <;> (try simp); split <;> simp
theorem abF : ∀ s : Str, (dK s).length = s.count 47 + 1
 | [] => by simp [dK]
 | b :: r => by
  have ih := abF r
  simp only [dK, List.count_cons]
  by_cases h : b = 47
  ·simp [h, ih]
  ·rw [if_neg h]
   have hb : (b == 47) = false := by simpa using h
   cases hr : dK r with
   | nil => exact absurd hr (aaK r)
   | cons x t => rw [hr] at ih; simp [hb] at ih ⊢; omega
def afF (p : Str) : List Str → List Str
 | [] => [p]
 | h :: t => (p ++ h) :: t
theorem ari (p r : Str) : afF p (dK (47 :: r)) = p :: dK r := by simp [dK, afF]
theorem asJ (p r : Str) {b : UInt8} (h : b ≠ 47) : afF p (dK (b :: r)) = afF (p ++ [b]) (dK r) := by
 simp only [dK, if_neg h]
 cases hr : dK r with
 | nil => exact absurd hr (aaK r)
 | cons x t => simp [afF]
theorem awD (s : Str) {a i : Nat} (h1 : a ≤ i) (h2 : i ≤ s.length) : dI s (some (a : Int)) (some (i : Int)) = (s.take i).drop a := by simp [dI]
theorem auL (s : Str) {a i : Nat} (h1 : a ≤ i) (h2 : i < s.length) : (s.take i).drop a ++ [s[i]] = (s.take (i + 1)).drop a := by
 rw [← asp h2, List.drop_append_of_le_length (by simp; omega)]
theorem ape (s : Str) (hl : s.length < 1000000) : ∀ (k i fu a : Nat) (acc : List Str), i + k = s.length → k < fu → a ≤ i → acc.length ≤ i →
  gR fu s (a : Int) (i : Int) acc = some (acc ++ afF ((s.take i).drop a) (dK (s.drop i))) := by
 intro k
 induction k with
 | zero =>
  intro i fu a acc hi hf ha hacc
  obtain ⟨fu, rfl⟩ : ∃ n, fu = n + 1 := ⟨fu - 1, by omega⟩
  have e : dI s (some (a : Int)) none = (s.take i).drop a := by simp [dI, List.take_of_length_le (show s.length ≤ i by omega)]
  rw [gR, aQ (pV (by omega)), aL (by simp; omega), e, aL (by simp; omega), drop_nil s i (by omega)]
  simp [dK, afF]
 | succ k ih =>
  intro i fu a acc hi hf ha hacc
  obtain ⟨fu, rfl⟩ : ∃ n, fu = n + 1 := ⟨fu - 1, by omega⟩
  have h : i < s.length := by omega
  rw [gR, aL (jC h), aL (inr h), af0 h, cD (by omega), List.drop_eq_getElem_cons (l := s) h]
  by_cases c : s[i].toNat = 47
  ·have e : s[i] = 47 := UInt8.toNat.inj (by simpa using c)
   rw [aL (by simp; omega), aL (by simp; omega), aL (by simp; omega), awD s ha (by omega), aL (by simp; omega), ih (i + 1) fu (i + 1) _ (by omega) (by omega) (by omega) (by simp; omega), e, ari]
   rw [drop_nil (s.take (i + 1)) _ (by simp; omega)]
   cases hr : dK (s.drop (i + 1)) with
   | nil => exact absurd hr (aaK _)
   | cons x t => simp [afF]
  ·have e : s[i] ≠ 47 := fun h => c (by rw [h]; rfl)
   rw [aQ (by simp; omega), ih (i + 1) fu a acc (by omega) (by omega) (by omega) (by omega), asJ _ _ e, auL s ha h]
theorem ahu (s : Str) (hl : s.length < 1000000) : oX s = some (dK s) := by
 have := ape s hl s.length 0 fuel 0 [] (by omega) (by rw [iX]; omega) (by omega) (by simp)
 have e : afF [] (dK s) = dK s := by
  cases hr : dK s with
  | nil => exact absurd hr (aaK _)
  | cons x t => simp [afF]
 simp only [List.drop_zero, List.take_zero, List.drop_nil, List.nil_append, e] at this
 exact this
theorem aiG (s : Str) : nH s = some (sizedB s) := by
 unfold nH sizedB
 by_cases c1 : s.length < 1
 ·rw [aQ (by simp; omega)]; simp; omega
 ·rw [aL (by simp; omega)]
  by_cases c2 : s.length > 64
  ·rw [aQ (by simp; omega)]; simp; omega
  ·have e1 : decide (1 ≤ s.length) = true := by simp; omega
   have e2 : decide (s.length ≤ 64) = true := by simp; omega
   rw [aL (by simp; omega), cZ (ahU s (by omega) 0 (n := 0) rfl), e1, e2, Bool.true_and, Bool.true_and]
   cases s.contains 0
   ·rw [aL (by rfl), cZ (ahu s (by omega)), abF]
    simp; omega
   ·rw [aQ (by rfl)]; rfl
def xG (s : Str) : Bool := sizedB s && !(s.contains 43) && !(s.contains 35)
theorem awo (s : Str) : ∀ (k i fu : Nat), s.length - i ≤ k → k < fu → lW fu s i = some (!((s.drop i).contains 43) && !((s.drop i).contains 35)) := by
 intro k
 induction k with
 | zero =>
  intro i fu hi hf
  obtain ⟨fu, rfl⟩ : ∃ n, fu = n + 1 := ⟨fu - 1, by omega⟩
  rw [lW, aQ (by simp; omega), List.drop_eq_nil_of_le (by omega)]; rfl
 | succ k ih =>
  intro i fu hi hf
  obtain ⟨fu, rfl⟩ : ∃ n, fu = n + 1 := ⟨fu - 1, by omega⟩
  by_cases h : i < s.length
  ·rw [lW, aL (by simpa using h)]
   by_cases lo : s[i].toNat < 128
   ·rw [alU h lo, List.drop_eq_getElem_cons h, List.contains_cons, List.contains_cons]
    simp only
    by_cases c0 : s[i].toNat = 43
    ·have e : s[i] = 43 := UInt8.toNat.inj (by simpa using c0)
     rw [aL (by simp; omega)]; simp [e]
    ·have e : (43 == s[i]) = false := by simp; intro h; rw [← h] at c0; simp at c0
     rw [aQ (by simp; omega), e, Bool.false_or]
     by_cases c1 : s[i].toNat = 35
     ·have e1 : s[i] = 35 := UInt8.toNat.inj (by simpa using c1)
      rw [aL (by simp; omega)]; simp [e1]
     ·have e1 : (35 == s[i]) = false := by simp; intro h; rw [← h] at c1; simp at c1
      rw [aQ (by simp; omega), ih (i + 1) fu (by omega) (by omega), e1, Bool.false_or]
   ·obtain ⟨t, ht, hh⟩ := akf h (by omega)
    have hd := aiI h (by omega)
    rw [aQ (by simp; omega), aQ (by simp; omega), ih (i + (dec s i).2) fu (by omega) (by omega), ht, vX hh (by decide), vX hh (by decide)]
  ·rw [lW, aQ (by simpa using h), List.drop_eq_nil_of_le (by omega)]; rfl
theorem acO {s : Str} (h : sizedB s = true) : 1 ≤ s.length ∧ s.length ≤ 64 := by
 simp only [sizedB, Bool.and_eq_true, decide_eq_true_eq] at h
 exact ⟨h.1.1.1, h.1.1.2⟩
theorem apo (s : Str) : zJ s = some (xG s) := by
 unfold zJ xG
 rw [cZ (apm s)]
 cases h : sizedB s
 ·rw [aL (by rfl)]; rfl
 ·have := acO h
  rw [aQ (by rfl), awo s s.length 0 fuel (by omega) (by rw [iX]; omega)]
  simp
theorem ais (s : Str) : p8 s = some (xG s) := by
 unfold p8 xG
 rw [cZ (aiG s)]
 cases h : sizedB s
 ·rw [aQ (by rfl)]; rfl
 ·have := acO h
  rw [aL (by rfl), cZ (ahU s (by omega) 43 (n := 43) rfl)]
  cases s.contains 43
  ·rw [aL (by rfl), cZ (ahU s (by omega) 35 (n := 35) rfl)]; rfl
  ·rw [aQ (by rfl)]; rfl
end Md
end PX
