import Derived.Test.YtmcpanmcgpjfiaaGreatDoorTopicA
set_option linter.unusedVariables false
set_option linter.unusedSimpArgs false
namespace PX
open Go
namespace Md
theorem drop_nil {α : Type} (l : List α) (n : Nat) (h : l.length ≤ n) : l.drop n = [] := List.drop_eq_nil_of_le h
theorem ae8 {s : Str} {i : Nat} (h : i < s.length) : List.getD s (Int.toNat (i : Int)) 0 = s[i] := by rw [Int.toNat_natCast, aiC h]
theorem ano (b : UInt8) : mZ (UInt8.toNat b : Int) = some (abf b) := by
 unfold mZ abf
 by_cases c : 97 ≤ b.toNat
 ·rw [aO (by simp; omega)]
  have e : decide (97 ≤ b.toNat) = true := by simpa using c
  rw [e, Bool.true_and]; congr 1; simp <;> omega
 ·rw [aY (by simp; omega)]
  have e : decide (97 ≤ b.toNat) = false := by simpa using c
  rw [e, Bool.false_and]
theorem atP (b : UInt8) : pT (UInt8.toNat b : Int) = some (ahN b) := by
 unfold pT ahN
 by_cases c : 48 ≤ b.toNat
 ·rw [aO (by simp; omega)]
  have e : decide (48 ≤ b.toNat) = true := by simpa using c
  rw [e, Bool.true_and]; congr 1; simp <;> omega
 ·rw [aY (by simp; omega)]
  have e : decide (48 ≤ b.toNat) = false := by simpa using c
  rw [e, Bool.false_and]
theorem arh (s : Str) (hl : s.length < 1000000000000000) : ∀ (k i fu : Nat), i + k = s.length → k < fu → gD fu s (i : Int) = some ((s.drop i).all sD) := by
 intro k
 induction k with
 | zero =>
  intro i fu hi hf
  obtain ⟨fu, rfl⟩ : ∃ n, fu = n + 1 := ⟨fu - 1, by omega⟩
  rw [gD, aY (xD (by omega)), List.drop_eq_nil_of_le (by omega)]; rfl
 | succ k ih =>
  intro i fu hi hf
  obtain ⟨fu, rfl⟩ : ∃ n, fu = n + 1 := ⟨fu - 1, by omega⟩
  have h : i < s.length := by omega
  rw [gD, aO (eM h), aO (inr h), ae8 h, dY (ano _), anz h, bW (by omega), ih (i + 1) fu (by omega) (by omega)]
  unfold sD
  cases c1 : abf s[i]
  ·rw [aO (by rfl), aO (inr h), dY (atP _)]
   cases c2 : ahN s[i]
   ·rw [aO (by rfl), aO (inr h)]
    by_cases c3 : s[i].toNat = 45
    ·rw [aY (by simp; omega)]; simp [c3]
    ·rw [aO (by simp; omega)]; simp [c3]
   ·rw [aY (by rfl)]; simp
  ·rw [aY (by rfl)]; simp
theorem vP (s : Str) (hl : s.length < 1000000000000000) : hI s = some (hY s) := by
 unfold hI hY
 by_cases c1 : s.length < 1
 ·rw [aO (by simp; omega)]; simp; omega
 ·rw [aY (by simp; omega)]
  by_cases c2 : s.length > 16
  ·rw [aO (by simp; omega)]; simp; omega
  ·have e1 : decide (1 ≤ s.length) = true := by simp; omega
   have e2 : decide (s.length ≤ 16) = true := by simp; omega
   rw [aY (by simp; omega), aO (by simp; omega), dY (ano _), e1, e2]
   have e3 : List.getD s (Int.toNat 0) 0 = s.getD 0 0 := rfl
   rw [e3]
   cases c3 : abf (s.getD 0 0)
   ·rw [aO (by rfl)]; simp
   ·rw [aY (by rfl)]
    unfold rS
    have := arh s hl s.length 0 fuel (by omega) (by rw [kR]; omega)
    rw [show ((0 : Nat) : Int) = 0 from rfl] at this
    rw [this]; simp
theorem aCt (s : Str) (hl : s.length < 1000000000000000) (c : UInt8) : ∀ (k i fu : Nat), i + k = s.length → k < fu → j5 fu s (c.toNat : Int) (i : Int) = some ((s.drop i).contains c) := by
 intro k
 induction k with
 | zero =>
  intro i fu hi hf
  obtain ⟨fu, rfl⟩ : ∃ n, fu = n + 1 := ⟨fu - 1, by omega⟩
  rw [j5, aY (xD (by omega)), List.drop_eq_nil_of_le (by omega)]; rfl
 | succ k ih =>
  intro i fu hi hf
  obtain ⟨fu, rfl⟩ : ∃ n, fu = n + 1 := ⟨fu - 1, by omega⟩
  have h : i < s.length := by omega
  rw [j5, aO (eM h), aO (inr h), ae8 h, bW (by omega), ih (i + 1) fu (by omega) (by omega), List.drop_eq_getElem_cons h, List.contains_cons]
  by_cases e : s[i] = c
  ·rw [aO (by simp [e])]; simp [e]
  ·have e2 : ¬ s[i].toNat = c.toNat := fun h => e (UInt8.toNat.inj h)
   rw [aY (by simp; omega)]
   have e3 : (c == s[i]) = false := by simp; exact fun h => e h.symm
   simp [e3]
theorem ahm (s : Str) (hl : s.length < 1000000000000000) (c : UInt8) {n : Int} (hn : n = (c.toNat : Int)) : jT s n = some (s.contains c) := by
 subst hn
 have := aCt s hl c s.length 0 fuel (by omega) (by rw [kR]; omega)
 simpa [jT] using this
def sizedB (s : Str) : Bool := decide (1 ≤ s.length) && decide (s.length ≤ 64) && !(s.contains 0) && decide (s.count 47 + 1 ≤ 8)
theorem awe (s : Str) : ∀ (k i fu c : Nat), s.length - i ≤ k → k < fu → c + k < 1000000000 → kE fu (c : Int) s i = some (!((s.drop i).contains 0) && decide (c + (s.drop i).count 47 ≤ 8)) := by
 intro k
 induction k with
 | zero =>
  intro i fu c hi hf hc
  obtain ⟨fu, rfl⟩ : ∃ n, fu = n + 1 := ⟨fu - 1, by omega⟩
  have ec : decide ((c : Int) ≤ 8) = decide (c ≤ 8) := by rw [decide_eq_decide]; omega
  rw [kE, aY (by simp; omega), List.drop_eq_nil_of_le (by omega), ec]; simp <;> exact decide_eq_decide.2 Iff.rfl
 | succ k ih =>
  intro i fu c hi hf hc
  obtain ⟨fu, rfl⟩ : ∃ n, fu = n + 1 := ⟨fu - 1, by omega⟩
  by_cases h : i < s.length
  ·rw [kE, aO (by simpa using h)]
   by_cases lo : s[i].toNat < 128
   ·rw [akh h lo, List.drop_eq_getElem_cons h, List.contains_cons, List.count_cons]
    simp only
    by_cases c0 : s[i].toNat = 0
    ·have e : s[i] = 0 := UInt8.toNat.inj (by simpa using c0)
     rw [aO (by simp; omega)]; simp [e]
    ·have e : (0 == s[i]) = false := by simp; intro h; rw [← h] at c0; simp at c0
     rw [aY (by simp; omega), e, Bool.false_or]
     by_cases c1 : s[i].toNat = 47
     ·have e1 : s[i] = 47 := UInt8.toNat.inj (by simpa using c1)
      rw [aO (by simp; omega), bW (by omega), ih (i + 1) fu (c + 1) (by omega) (by omega) (by omega)]
      simp only [e1, beq_self_eq_true, if_true]
      rw [show c + 1 + List.count 47 (List.drop (i + 1) s) = c + (List.count 47 (List.drop (i + 1) s) + 1) by omega]
     ·have e1 : (s[i] == 47) = false := by simp; intro h; rw [h] at c1; simp at c1
      rw [aY (by simp; omega), ih (i + 1) fu c (by omega) (by omega) (by omega)]
      simp [e1]
   ·obtain ⟨t, ht, hh⟩ := ajG h (by omega)
    have hd := ahC h (by omega)
    rw [aY (by simp; omega), aY (by simp; omega), ih (i + (dec s i).2) fu c (by omega) (by omega) (by omega), ht, vJ hh (by decide), aqf hh (by decide)]
  ·have ec : decide ((c : Int) ≤ 8) = decide (c ≤ 8) := by rw [decide_eq_decide]; omega
   rw [kE, aY (by simpa using h), List.drop_eq_nil_of_le (by omega), ec]; simp <;> exact decide_eq_decide.2 Iff.rfl
theorem aop (s : Str) : vN s = some (sizedB s) := by
 unfold vN sizedB
 by_cases c1 : s.length < 1
 ·rw [aO (by simp; omega)]; simp; omega
 ·rw [aY (by simp; omega)]
  by_cases c2 : s.length > 64
  ·rw [aO (by simp; omega)]; simp; omega
  ·have e1 : decide (1 ≤ s.length) = true := by simp; omega
   have e2 : decide (s.length ≤ 64) = true := by simp; omega
   rw [aY (by simp; omega), e1, e2]
   unfold xT
   have := awe s s.length 0 fuel 1 (by omega) (by rw [kR]; omega) (by omega)
   rw [show ((1 : Nat) : Int) = 1 from rfl] at this
   rw [this]; simp [Nat.add_comm]
def dB : Str → List Str
 | [] => [[]]
 | b :: r => if b = 47 then [] :: dB r else match dB r with | [] => [[b]] | h :: t => (b :: h) :: t
theorem aau (s : Str) : dB s ≠ [] := by
 cases s with
 | nil => simp [dB]
 | cons b r => simp only [dB]; split <;> (try simp); split <;> simp
theorem abG : ∀ s : Str, (dB s).length = s.count 47 + 1
 | [] => by simp [dB]
 | b :: r => by
  have ih := abG r
  simp only [dB, List.count_cons]
  by_cases h : b = 47
  ·simp [h, ih]
  ·rw [if_neg h]
   have hb : (b == 47) = false := by simpa using h
   cases hr : dB r with
   | nil => exact absurd hr (aau r)
   | cons x t => rw [hr] at ih; simp [hb] at ih ⊢; omega
def aeV (p : Str) : List Str → List Str
 | [] => [p]
 | h :: t => (p ++ h) :: t
theorem apM (p r : Str) : aeV p (dB (47 :: r)) = p :: dB r := by simp [dB, aeV]
theorem arT (p r : Str) {b : UInt8} (h : b ≠ 47) : aeV p (dB (b :: r)) = aeV (p ++ [b]) (dB r) := by
 simp only [dB, if_neg h]
 cases hr : dB r with
 | nil => exact absurd hr (aau r)
 | cons x t => simp [aeV]
theorem av1 (s : Str) {a i : Nat} (h1 : a ≤ i) (h2 : i ≤ s.length) : c9 s (some (a : Int)) (some (i : Int)) = (s.take i).drop a := by simp [c9]
theorem atK (s : Str) {a i : Nat} (h1 : a ≤ i) (h2 : i < s.length) : (s.take i).drop a ++ [s[i]] = (s.take (i + 1)).drop a := by
 rw [← arL h2, List.drop_append_of_le_length (by simp; omega)]
theorem aoz (s : Str) (hl : s.length < 1000000) : ∀ (k i fu a : Nat) (acc : List Str), i + k = s.length → k < fu → a ≤ i → acc.length ≤ i →
  gI fu s (a : Int) (i : Int) acc = some (acc ++ aeV ((s.take i).drop a) (dB (s.drop i))) := by
 intro k
 induction k with
 | zero =>
  intro i fu a acc hi hf ha hacc
  obtain ⟨fu, rfl⟩ : ∃ n, fu = n + 1 := ⟨fu - 1, by omega⟩
  have e : c9 s (some (a : Int)) none = (s.take i).drop a := by simp [c9, List.take_of_length_le (show s.length ≤ i by omega)]
  rw [gI, aY (xD (by omega)), aO (by simp; omega), e, aO (by simp; omega), drop_nil s i (by omega)]
  simp [dB, aeV]
 | succ k ih =>
  intro i fu a acc hi hf ha hacc
  obtain ⟨fu, rfl⟩ : ∃ n, fu = n + 1 := ⟨fu - 1, by omega⟩
  have h : i < s.length := by omega
  rw [gI, aO (eM h), aO (inr h), ae8 h, bW (by omega), List.drop_eq_getElem_cons (l := s) h]
  by_cases c : s[i].toNat = 47
  ·have e : s[i] = 47 := UInt8.toNat.inj (by simpa using c)
   rw [aO (by simp; omega), aO (by simp; omega), aO (by simp; omega), av1 s ha (by omega), aO (by simp; omega), ih (i + 1) fu (i + 1) _ (by omega) (by omega) (by omega) (by simp; omega), e, apM]
   rw [drop_nil (s.take (i + 1)) _ (by simp; omega)]
   cases hr : dB (s.drop (i + 1)) with
   | nil => exact absurd hr (aau _)
   | cons x t => simp [aeV]
  ·have e : s[i] ≠ 47 := fun h => c (by rw [h]; rfl)
   rw [aY (by simp; omega), ih (i + 1) fu a acc (by omega) (by omega) (by omega) (by omega), arT _ _ e, atK s ha h]
theorem agG (s : Str) (hl : s.length < 1000000) : oN s = some (dB s) := by
 have := aoz s hl s.length 0 fuel 0 [] (by omega) (by rw [kR]; omega) (by omega) (by simp)
 have e : aeV [] (dB s) = dB s := by
  cases hr : dB s with
  | nil => exact absurd hr (aau _)
  | cons x t => simp [aeV]
 simp only [List.drop_zero, List.take_zero, List.drop_nil, List.nil_append, e] at this
 exact this
theorem ahY (s : Str) : mV s = some (sizedB s) := by
 unfold mV sizedB
 by_cases c1 : s.length < 1
 ·rw [aY (by simp; omega)]; simp; omega
 ·rw [aO (by simp; omega)]
  by_cases c2 : s.length > 64
  ·rw [aY (by simp; omega)]; simp; omega
  ·have e1 : decide (1 ≤ s.length) = true := by simp; omega
   have e2 : decide (s.length ≤ 64) = true := by simp; omega
   rw [aO (by simp; omega), dY (ahm s (by omega) 0 (n := 0) rfl), e1, e2, Bool.true_and, Bool.true_and]
   cases s.contains 0
   ·rw [aO (by rfl), dY (agG s (by omega)), abG]
    simp; omega
   ·rw [aY (by rfl)]; rfl
def abR (s : Str) : Bool := sizedB s && !(s.contains 43) && !(s.contains 35)
theorem awj (s : Str) : ∀ (k i fu : Nat), s.length - i ≤ k → k < fu → lW fu s i = some (!((s.drop i).contains 43) && !((s.drop i).contains 35)) := by
 intro k
 induction k with
 | zero =>
  intro i fu hi hf
  obtain ⟨fu, rfl⟩ : ∃ n, fu = n + 1 := ⟨fu - 1, by omega⟩
  rw [lW, aY (by simp; omega), List.drop_eq_nil_of_le (by omega)]; rfl
 | succ k ih =>
  intro i fu hi hf
  obtain ⟨fu, rfl⟩ : ∃ n, fu = n + 1 := ⟨fu - 1, by omega⟩
  by_cases h : i < s.length
  ·rw [lW, aO (by simpa using h)]
   by_cases lo : s[i].toNat < 128
   ·rw [akh h lo, List.drop_eq_getElem_cons h, List.contains_cons, List.contains_cons]
    simp only
    by_cases c0 : s[i].toNat = 43
    ·have e : s[i] = 43 := UInt8.toNat.inj (by simpa using c0)
     rw [aO (by simp; omega)]; simp [e]
    ·have e : (43 == s[i]) = false := by simp; intro h; rw [← h] at c0; simp at c0
     rw [aY (by simp; omega), e, Bool.false_or]
     by_cases c1 : s[i].toNat = 35
     ·have e1 : s[i] = 35 := UInt8.toNat.inj (by simpa using c1)
      rw [aO (by simp; omega)]; simp [e1]
     ·have e1 : (35 == s[i]) = false := by simp; intro h; rw [← h] at c1; simp at c1
      rw [aY (by simp; omega), ih (i + 1) fu (by omega) (by omega), e1, Bool.false_or]
   ·obtain ⟨t, ht, hh⟩ := ajG h (by omega)
    have hd := ahC h (by omega)
    rw [aY (by simp; omega), aY (by simp; omega), ih (i + (dec s i).2) fu (by omega) (by omega), ht, vJ hh (by decide), vJ hh (by decide)]
  ·rw [lW, aY (by simpa using h), List.drop_eq_nil_of_le (by omega)]; rfl
theorem acw {s : Str} (h : sizedB s = true) : 1 ≤ s.length ∧ s.length ≤ 64 := by
 simp only [sizedB, Bool.and_eq_true, decide_eq_true_eq] at h
 exact ⟨h.1.1.1, h.1.1.2⟩
theorem aty (s : Str) : yM s = some (abR s) := by
 unfold yM abR
 rw [dY (aop s)]
 cases h : sizedB s
 ·rw [aO (by rfl)]; rfl
 ·have := acw h
  rw [aY (by rfl), awj s s.length 0 fuel (by omega) (by rw [kR]; omega)]
  simp
theorem an9 (s : Str) : pL s = some (abR s) := by
 unfold pL abR
 rw [dY (ahY s)]
 cases h : sizedB s
 ·rw [aY (by rfl)]; rfl
 ·have := acw h
  rw [aO (by rfl), dY (ahm s (by omega) 43 (n := 43) rfl)]
  cases s.contains 43
  ·rw [aO (by rfl), dY (ahm s (by omega) 35 (n := 35) rfl)]; rfl
  ·rw [aY (by rfl)]; rfl
end Md
end PX
