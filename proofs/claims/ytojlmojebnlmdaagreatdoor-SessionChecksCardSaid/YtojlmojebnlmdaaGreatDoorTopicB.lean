import Derived.Test.YtojlmojebnlmdaaGreatDoorTopicA
set_option linter.unusedVariables false
set_option linter.unusedSimpArgs false
namespace PX
open Go
namespace Md
theorem drop_nil {α : Type} (l : List α) (n : Nat) (h : l.length ≤ n) : l.drop n = [] := List.drop_eq_nil_of_le h
theorem abJ {s : Str} {i : Nat} (h : i < s.length) : List.getD s (Int.toNat (i : Int)) 0 = s[i] := by rw [Int.toNat_natCast, aeS h]
theorem aj9 (b : UInt8) : kC (UInt8.toNat b : Int) = some (wC b) := by
 unfold kC wC
 by_cases c : 97 ≤ b.toNat
 ·rw [aQ (by simp; omega)]
  have e : decide (97 ≤ b.toNat) = true := by simpa using c
  rw [e, Bool.true_and]; congr 1; simp <;> omega
 ·rw [aW (by simp; omega)]
  have e : decide (97 ≤ b.toNat) = false := by simpa using c
  rw [e, Bool.false_and]
theorem anw (b : UInt8) : mP (UInt8.toNat b : Int) = some (aew b) := by
 unfold mP aew
 by_cases c : 48 ≤ b.toNat
 ·rw [aQ (by simp; omega)]
  have e : decide (48 ≤ b.toNat) = true := by simpa using c
  rw [e, Bool.true_and]; congr 1; simp <;> omega
 ·rw [aW (by simp; omega)]
  have e : decide (48 ≤ b.toNat) = false := by simpa using c
  rw [e, Bool.false_and]
theorem al5 (s : Str) (hl : s.length < 1000000000000000) : ∀ (k i fu : Nat), i + k = s.length → k < fu → dY fu s (i : Int) = some ((s.drop i).all oI) := by
 intro k
 induction k with
 | zero =>
  intro i fu hi hf
  obtain ⟨fu, rfl⟩ : ∃ n, fu = n + 1 := ⟨fu - 1, by omega⟩
  rw [dY, aW (uU (by omega)), List.drop_eq_nil_of_le (by omega)]; rfl
 | succ k ih =>
  intro i fu hi hf
  obtain ⟨fu, rfl⟩ : ∃ n, fu = n + 1 := ⟨fu - 1, by omega⟩
  have h : i < s.length := by omega
  rw [dY, aQ (kP h), aQ (inr h), abJ h, cK (aj9 _), ajl h, bY (by omega), ih (i + 1) fu (by omega) (by omega)]
  unfold oI
  cases c1 : wC s[i]
  ·rw [aQ (by rfl), aQ (inr h), cK (anw _)]
   cases c2 : aew s[i]
   ·rw [aQ (by rfl), aQ (inr h)]
    by_cases c3 : s[i].toNat = 45
    ·rw [aW (by simp; omega)]; simp [c3]
    ·rw [aQ (by simp; omega)]; simp [c3]
   ·rw [aW (by rfl)]; simp
  ·rw [aW (by rfl)]; simp
theorem w3 (s : Str) (hl : s.length < 1000000000000000) : iB s = some (o7 s) := by
 unfold iB o7
 by_cases c1 : s.length < 1
 ·rw [aQ (by simp; omega)]; simp; omega
 ·rw [aW (by simp; omega)]
  by_cases c2 : s.length > 16
  ·rw [aQ (by simp; omega)]; simp; omega
  ·have e1 : decide (1 ≤ s.length) = true := by simp; omega
   have e2 : decide (s.length ≤ 16) = true := by simp; omega
   rw [aW (by simp; omega), aQ (by simp; omega), cK (aj9 _), e1, e2]
   have e3 : List.getD s (Int.toNat 0) 0 = s.getD 0 0 := rfl
   rw [e3]
   cases c3 : wC (s.getD 0 0)
   ·rw [aQ (by rfl)]; simp
   ·rw [aW (by rfl)]
    unfold nV
    have := al5 s hl s.length 0 fuel (by omega) (by rw [nE]; omega)
    rw [show ((0 : Nat) : Int) = 0 from rfl] at this
    rw [this]; simp
theorem atB (s : Str) (hl : s.length < 1000000000000000) (c : UInt8) : ∀ (k i fu : Nat), i + k = s.length → k < fu → hU fu s (c.toNat : Int) (i : Int) = some ((s.drop i).contains c) := by
 intro k
 induction k with
 | zero =>
  intro i fu hi hf
  obtain ⟨fu, rfl⟩ : ∃ n, fu = n + 1 := ⟨fu - 1, by omega⟩
  rw [hU, aW (uU (by omega)), List.drop_eq_nil_of_le (by omega)]; rfl
 | succ k ih =>
  intro i fu hi hf
  obtain ⟨fu, rfl⟩ : ∃ n, fu = n + 1 := ⟨fu - 1, by omega⟩
  have h : i < s.length := by omega
  rw [hU, aQ (kP h), aQ (inr h), abJ h, bY (by omega), ih (i + 1) fu (by omega) (by omega), List.drop_eq_getElem_cons h, List.contains_cons]
  by_cases e : s[i] = c
  ·rw [aQ (by simp [e])]; simp [e]
  ·have e2 : ¬ s[i].toNat = c.toNat := fun h => e (UInt8.toNat.inj h)
   rw [aW (by simp; omega)]
   have e3 : (c == s[i]) = false := by simp; exact fun h => e h.symm
   simp [e3]
theorem aes (s : Str) (hl : s.length < 1000000000000000) (c : UInt8) {n : Int} (hn : n = (c.toNat : Int)) : gR s n = some (s.contains c) := by
 subst hn
 have := atB s hl c s.length 0 fuel (by omega) (by rw [nE]; omega)
 simpa [gR] using this
def sizedB (s : Str) : Bool := decide (1 ≤ s.length) && decide (s.length ≤ 64) && !(s.contains 0) && decide (s.count 47 + 1 ≤ 8)
theorem apE (s : Str) : ∀ (k i fu c : Nat), s.length - i ≤ k → k < fu → c + k < 1000000000 → iG fu (c : Int) s i = some (!((s.drop i).contains 0) && decide (c + (s.drop i).count 47 ≤ 8)) := by
 intro k
 induction k with
 | zero =>
  intro i fu c hi hf hc
  obtain ⟨fu, rfl⟩ : ∃ n, fu = n + 1 := ⟨fu - 1, by omega⟩
  have ec : decide ((c : Int) ≤ 8) = decide (c ≤ 8) := by rw [decide_eq_decide]; omega
  rw [iG, aW (by simp; omega), List.drop_eq_nil_of_le (by omega), ec]; simp <;> exact decide_eq_decide.2 Iff.rfl
 | succ k ih =>
  intro i fu c hi hf hc
  obtain ⟨fu, rfl⟩ : ∃ n, fu = n + 1 := ⟨fu - 1, by omega⟩
  by_cases h : i < s.length
  ·rw [iG, aQ (by simpa using h)]
   by_cases lo : s[i].toNat < 128
   ·rw [ag0 h lo, List.drop_eq_getElem_cons h, List.contains_cons, List.count_cons]
    simp only
    by_cases c0 : s[i].toNat = 0
    ·have e : s[i] = 0 := UInt8.toNat.inj (by simpa using c0)
     rw [aQ (by simp; omega)]; simp [e]
    ·have e : (0 == s[i]) = false := by simp; intro h; rw [← h] at c0; simp at c0
     rw [aW (by simp; omega), e, Bool.false_or]
     by_cases c1 : s[i].toNat = 47
     ·have e1 : s[i] = 47 := UInt8.toNat.inj (by simpa using c1)
      rw [aQ (by simp; omega), bY (by omega), ih (i + 1) fu (c + 1) (by omega) (by omega) (by omega)]
      simp only [e1, beq_self_eq_true, if_true]
      rw [show c + 1 + List.count 47 (List.drop (i + 1) s) = c + (List.count 47 (List.drop (i + 1) s) + 1) by omega]
     ·have e1 : (s[i] == 47) = false := by simp; intro h; rw [h] at c1; simp at c1
      rw [aW (by simp; omega), ih (i + 1) fu c (by omega) (by omega) (by omega)]
      simp [e1]
   ·obtain ⟨t, ht, hh⟩ := afx h (by omega)
    have hd := aez h (by omega)
    rw [aW (by simp; omega), aW (by simp; omega), ih (i + (dec s i).2) fu c (by omega) (by omega) (by omega), ht, qI hh (by decide), alp hh (by decide)]
  ·have ec : decide ((c : Int) ≤ 8) = decide (c ≤ 8) := by rw [decide_eq_decide]; omega
   rw [iG, aW (by simpa using h), List.drop_eq_nil_of_le (by omega), ec]; simp <;> exact decide_eq_decide.2 Iff.rfl
theorem aj5 (s : Str) : qQ s = some (sizedB s) := by
 unfold qQ sizedB
 by_cases c1 : s.length < 1
 ·rw [aQ (by simp; omega)]; simp; omega
 ·rw [aW (by simp; omega)]
  by_cases c2 : s.length > 64
  ·rw [aQ (by simp; omega)]; simp; omega
  ·have e1 : decide (1 ≤ s.length) = true := by simp; omega
   have e2 : decide (s.length ≤ 64) = true := by simp; omega
   rw [aW (by simp; omega), e1, e2]
   unfold sE
   have := apE s s.length 0 fuel 1 (by omega) (by rw [nE]; omega) (by omega)
   rw [show ((1 : Nat) : Int) = 1 from rfl] at this
   rw [this]; simp [Nat.add_comm]
def bX : Str → List Str
 | [] => [[]]
 | b :: r => if b = 47 then [] :: bX r else match bX r with | [] => [[b]] | h :: t => (b :: h) :: t
theorem uX (s : Str) : bX s ≠ [] := by
 cases s with
 | nil => simp [bX]
 | cons b r => simp only [bX]; split <;> (try simp); split <;> simp
theorem w6 : ∀ s : Str, (bX s).length = s.count 47 + 1
 | [] => by simp [bX]
 | b :: r => by
  have ih := w6 r
  simp only [bX, List.count_cons]
  by_cases h : b = 47
  ·simp [h, ih]
  ·rw [if_neg h]
   have hb : (b == 47) = false := by simpa using h
   cases hr : bX r with
   | nil => exact absurd hr (uX r)
   | cons x t => rw [hr] at ih; simp [hb] at ih ⊢; omega
def abd (p : Str) : List Str → List Str
 | [] => [p]
 | h :: t => (p ++ h) :: t
theorem alf (p r : Str) : abd p (bX (47 :: r)) = p :: bX r := by simp [bX, abd]
theorem amt (p r : Str) {b : UInt8} (h : b ≠ 47) : abd p (bX (b :: r)) = abd (p ++ [b]) (bX r) := by
 simp only [bX, if_neg h]
 cases hr : bX r with
 | nil => exact absurd hr (uX r)
 | cons x t => simp [abd]
theorem apr (s : Str) {a i : Nat} (h1 : a ≤ i) (h2 : i ≤ s.length) : bN s (some (a : Int)) (some (i : Int)) = (s.take i).drop a := by simp [bN]
theorem anv (s : Str) {a i : Nat} (h1 : a ≤ i) (h2 : i < s.length) : (s.take i).drop a ++ [s[i]] = (s.take (i + 1)).drop a := by
 rw [← amD h2, List.drop_append_of_le_length (by simp; omega)]
theorem aje (s : Str) (hl : s.length < 1000000) : ∀ (k i fu a : Nat) (acc : List Str), i + k = s.length → k < fu → a ≤ i → acc.length ≤ i →
  eB fu s (a : Int) (i : Int) acc = some (acc ++ abd ((s.take i).drop a) (bX (s.drop i))) := by
 intro k
 induction k with
 | zero =>
  intro i fu a acc hi hf ha hacc
  obtain ⟨fu, rfl⟩ : ∃ n, fu = n + 1 := ⟨fu - 1, by omega⟩
  have e : bN s (some (a : Int)) none = (s.take i).drop a := by simp [bN, List.take_of_length_le (show s.length ≤ i by omega)]
  rw [eB, aW (uU (by omega)), aQ (by simp; omega), e, aQ (by simp; omega), drop_nil s i (by omega)]
  simp [bX, abd]
 | succ k ih =>
  intro i fu a acc hi hf ha hacc
  obtain ⟨fu, rfl⟩ : ∃ n, fu = n + 1 := ⟨fu - 1, by omega⟩
  have h : i < s.length := by omega
  rw [eB, aQ (kP h), aQ (inr h), abJ h, bY (by omega), List.drop_eq_getElem_cons (l := s) h]
  by_cases c : s[i].toNat = 47
  ·have e : s[i] = 47 := UInt8.toNat.inj (by simpa using c)
   rw [aQ (by simp; omega), aQ (by simp; omega), aQ (by simp; omega), apr s ha (by omega), aQ (by simp; omega), ih (i + 1) fu (i + 1) _ (by omega) (by omega) (by omega) (by simp; omega), e, alf]
   rw [drop_nil (s.take (i + 1)) _ (by simp; omega)]
   cases hr : bX (s.drop (i + 1)) with
   | nil => exact absurd hr (uX _)
   | cons x t => simp [abd]
  ·have e : s[i] ≠ 47 := fun h => c (by rw [h]; rfl)
   rw [aW (by simp; omega), ih (i + 1) fu a acc (by omega) (by omega) (by omega) (by omega), amt _ _ e, anv s ha h]
theorem adn (s : Str) (hl : s.length < 1000000) : lP s = some (bX s) := by
 have := aje s hl s.length 0 fuel 0 [] (by omega) (by rw [nE]; omega) (by omega) (by simp)
 have e : abd [] (bX s) = bX s := by
  cases hr : bX s with
  | nil => exact absurd hr (uX _)
  | cons x t => simp [abd]
 simp only [List.drop_zero, List.take_zero, List.drop_nil, List.nil_append, e] at this
 exact this
theorem adX (s : Str) : kI s = some (sizedB s) := by
 unfold kI sizedB
 by_cases c1 : s.length < 1
 ·rw [aW (by simp; omega)]; simp; omega
 ·rw [aQ (by simp; omega)]
  by_cases c2 : s.length > 64
  ·rw [aW (by simp; omega)]; simp; omega
  ·have e1 : decide (1 ≤ s.length) = true := by simp; omega
   have e2 : decide (s.length ≤ 64) = true := by simp; omega
   rw [aQ (by simp; omega), cK (aes s (by omega) 0 (n := 0) rfl), e1, e2, Bool.true_and, Bool.true_and]
   cases s.contains 0
   ·rw [aQ (by rfl), cK (adn s (by omega)), w6]
    simp; omega
   ·rw [aW (by rfl)]; rfl
def aeb (s : Str) : Bool := sizedB s && !(s.contains 43) && !(s.contains 35)
theorem apI (s : Str) : ∀ (k i fu : Nat), s.length - i ≤ k → k < fu → jN fu s i = some (!((s.drop i).contains 43) && !((s.drop i).contains 35)) := by
 intro k
 induction k with
 | zero =>
  intro i fu hi hf
  obtain ⟨fu, rfl⟩ : ∃ n, fu = n + 1 := ⟨fu - 1, by omega⟩
  rw [jN, aW (by simp; omega), List.drop_eq_nil_of_le (by omega)]; rfl
 | succ k ih =>
  intro i fu hi hf
  obtain ⟨fu, rfl⟩ : ∃ n, fu = n + 1 := ⟨fu - 1, by omega⟩
  by_cases h : i < s.length
  ·rw [jN, aQ (by simpa using h)]
   by_cases lo : s[i].toNat < 128
   ·rw [ag0 h lo, List.drop_eq_getElem_cons h, List.contains_cons, List.contains_cons]
    simp only
    by_cases c0 : s[i].toNat = 43
    ·have e : s[i] = 43 := UInt8.toNat.inj (by simpa using c0)
     rw [aQ (by simp; omega)]; simp [e]
    ·have e : (43 == s[i]) = false := by simp; intro h; rw [← h] at c0; simp at c0
     rw [aW (by simp; omega), e, Bool.false_or]
     by_cases c1 : s[i].toNat = 35
     ·have e1 : s[i] = 35 := UInt8.toNat.inj (by simpa using c1)
      rw [aQ (by simp; omega)]; simp [e1]
     ·have e1 : (35 == s[i]) = false := by simp; intro h; rw [← h] at c1; simp at c1
      rw [aW (by simp; omega), ih (i + 1) fu (by omega) (by omega), e1, Bool.false_or]
   ·obtain ⟨t, ht, hh⟩ := afx h (by omega)
    have hd := aez h (by omega)
    rw [aW (by simp; omega), aW (by simp; omega), ih (i + (dec s i).2) fu (by omega) (by omega), ht, qI hh (by decide), qI hh (by decide)]
  ·rw [jN, aW (by simpa using h), List.drop_eq_nil_of_le (by omega)]; rfl
theorem yT {s : Str} (h : sizedB s = true) : 1 ≤ s.length ∧ s.length ≤ 64 := by
 simp only [sizedB, Bool.and_eq_true, decide_eq_true_eq] at h
 exact ⟨h.1.1.1, h.1.1.2⟩
theorem anz (s : Str) : tE s = some (aeb s) := by
 unfold tE aeb
 rw [cK (aj5 s)]
 cases h : sizedB s
 ·rw [aQ (by rfl)]; rfl
 ·have := yT h
  rw [aW (by rfl), apI s s.length 0 fuel (by omega) (by rw [nE]; omega)]
  simp
theorem akp (s : Str) : mL s = some (aeb s) := by
 unfold mL aeb
 rw [cK (adX s)]
 cases h : sizedB s
 ·rw [aW (by rfl)]; rfl
 ·have := yT h
  rw [aQ (by rfl), cK (aes s (by omega) 43 (n := 43) rfl)]
  cases s.contains 43
  ·rw [aQ (by rfl), cK (aes s (by omega) 35 (n := 35) rfl)]; rfl
  ·rw [aW (by rfl)]; rfl
end Md
end PX
