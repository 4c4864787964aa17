import Derived.Test.YtojlmojebnlmdaaGreatDoorTopicA
set_option linter.unusedVariables false
set_option linter.unusedSimpArgs false
namespace PX
open Go
namespace Md
theorem drop_nil {α : Type} (l : List α) (n : Nat) (h : l.length ≤ n) : l.drop n = [] := List.drop_eq_nil_of_le h
theorem afx {s : Str} {i : Nat} (h : i < s.length) : List.getD s (Int.toNat (i : Int)) 0 = s[i] := by rw [Int.toNat_natCast, aiB h]
theorem aoh (b : UInt8) : mH (UInt8.toNat b : Int) = some (aa2 b) := by
 unfold mH aa2
 by_cases c : 97 ≤ b.toNat
 ·rw [aO (by simp; omega)]
  have e : decide (97 ≤ b.toNat) = true := by simpa using c
  rw [e, Bool.true_and]; congr 1; simp <;> omega
 ·rw [aU (by simp; omega)]
  have e : decide (97 ≤ b.toNat) = false := by simpa using c
  rw [e, Bool.false_and]
theorem at0 (b : UInt8) : o8 (UInt8.toNat b : Int) = some (ahn b) := by
 unfold o8 ahn
 by_cases c : 48 ≤ b.toNat
 ·rw [aO (by simp; omega)]
  have e : decide (48 ≤ b.toNat) = true := by simpa using c
  rw [e, Bool.true_and]; congr 1; simp <;> omega
 ·rw [aU (by simp; omega)]
  have e : decide (48 ≤ b.toNat) = false := by simpa using c
  rw [e, Bool.false_and]
theorem ard (s : Str) (hl : s.length < 1000000000000000) : ∀ (k i fu : Nat), i + k = s.length → k < fu → fJ fu s (i : Int) = some ((s.drop i).all sK) := by
 intro k
 induction k with
 | zero =>
  intro i fu hi hf
  obtain ⟨fu, rfl⟩ : ∃ n, fu = n + 1 := ⟨fu - 1, by omega⟩
  rw [fJ, aU (mX (by omega)), List.drop_eq_nil_of_le (by omega)]; rfl
 | succ k ih =>
  intro i fu hi hf
  obtain ⟨fu, rfl⟩ : ∃ n, fu = n + 1 := ⟨fu - 1, by omega⟩
  have h : i < s.length := by omega
  rw [fJ, aO (eA h), aO (inr h), afx h, cQ (aoh _), anj h, bN (by omega), ih (i + 1) fu (by omega) (by omega)]
  unfold sK
  cases c1 : aa2 s[i]
  ·rw [aO (by rfl), aO (inr h), cQ (at0 _)]
   cases c2 : ahn s[i]
   ·rw [aO (by rfl), aO (inr h)]
    by_cases c3 : s[i].toNat = 45
    ·rw [aU (by simp; omega)]; simp [c3]
    ·rw [aO (by simp; omega)]; simp [c3]
   ·rw [aU (by rfl)]; simp
  ·rw [aU (by rfl)]; simp
theorem vC (s : Str) (hl : s.length < 1000000000000000) : gC s = some (j3 s) := by
 unfold gC j3
 by_cases c1 : s.length < 1
 ·rw [aO (by simp; omega)]; simp; omega
 ·rw [aU (by simp; omega)]
  by_cases c2 : s.length > 16
  ·rw [aO (by simp; omega)]; simp; omega
  ·have e1 : decide (1 ≤ s.length) = true := by simp; omega
   have e2 : decide (s.length ≤ 16) = true := by simp; omega
   rw [aU (by simp; omega), aO (by simp; omega), cQ (aoh _), e1, e2]
   have e3 : List.getD s (Int.toNat 0) 0 = s.getD 0 0 := rfl
   rw [e3]
   cases c3 : aa2 (s.getD 0 0)
   ·rw [aO (by rfl)]; simp
   ·rw [aU (by rfl)]
    unfold rG
    have := ard s hl s.length 0 fuel (by omega) (by rw [fX]; omega)
    rw [show ((0 : Nat) : Int) = 0 from rfl] at this
    rw [this]; simp
theorem aC3 (s : Str) (hl : s.length < 1000000000000000) (c : UInt8) : ∀ (k i fu : Nat), i + k = s.length → k < fu → jJ fu s (c.toNat : Int) (i : Int) = some ((s.drop i).contains c) := by
 intro k
 induction k with
 | zero =>
  intro i fu hi hf
  obtain ⟨fu, rfl⟩ : ∃ n, fu = n + 1 := ⟨fu - 1, by omega⟩
  rw [jJ, aU (mX (by omega)), List.drop_eq_nil_of_le (by omega)]; rfl
 | succ k ih =>
  intro i fu hi hf
  obtain ⟨fu, rfl⟩ : ∃ n, fu = n + 1 := ⟨fu - 1, by omega⟩
  have h : i < s.length := by omega
  rw [jJ, aO (eA h), aO (inr h), afx h, bN (by omega), ih (i + 1) fu (by omega) (by omega), List.drop_eq_getElem_cons h, List.contains_cons]
  by_cases e : s[i] = c
  ·rw [aO (by simp [e])]; simp [e]
  ·have e2 : ¬ s[i].toNat = c.toNat := fun h => e (UInt8.toNat.inj h)
   rw [aU (by simp; omega)]
   have e3 : (c == s[i]) = false := by simp; exact fun h => e h.symm
   simp [e3]
theorem ahW (s : Str) (hl : s.length < 1000000000000000) (c : UInt8) {n : Int} (hn : n = (c.toNat : Int)) : iY s n = some (s.contains c) := by
 subst hn
 have := aC3 s hl c s.length 0 fuel (by omega) (by rw [fX]; omega)
 simpa [iY] using this
def sizedB (s : Str) : Bool := decide (1 ≤ s.length) && decide (s.length ≤ 64) && !(s.contains 0) && decide (s.count 47 + 1 ≤ 8)
theorem av4 (s : Str) : ∀ (k i fu c : Nat), s.length - i ≤ k → k < fu → c + k < 1000000000 → jQ fu (c : Int) s i = some (!((s.drop i).contains 0) && decide (c + (s.drop i).count 47 ≤ 8)) := by
 intro k
 induction k with
 | zero =>
  intro i fu c hi hf hc
  obtain ⟨fu, rfl⟩ : ∃ n, fu = n + 1 := ⟨fu - 1, by omega⟩
  have ec : decide ((c : Int) ≤ 8) = decide (c ≤ 8) := by rw [decide_eq_decide]; omega
  rw [jQ, aU (by simp; omega), List.drop_eq_nil_of_le (by omega), ec]; simp <;> exact decide_eq_decide.2 Iff.rfl
 | succ k ih =>
  intro i fu c hi hf hc
  obtain ⟨fu, rfl⟩ : ∃ n, fu = n + 1 := ⟨fu - 1, by omega⟩
  by_cases h : i < s.length
  ·rw [jQ, aO (by simpa using h)]
   by_cases lo : s[i].toNat < 128
   ·rw [akk h lo, List.drop_eq_getElem_cons h, List.contains_cons, List.count_cons]
    simp only
    by_cases c0 : s[i].toNat = 0
    ·have e : s[i] = 0 := UInt8.toNat.inj (by simpa using c0)
     rw [aO (by simp; omega)]; simp [e]
    ·have e : (0 == s[i]) = false := by simp; intro h; rw [← h] at c0; simp at c0
     rw [aU (by simp; omega), e, Bool.false_or]
     by_cases c1 : s[i].toNat = 47
     ·have e1 : s[i] = 47 := UInt8.toNat.inj (by simpa using c1)
      rw [aO (by simp; omega), bN (by omega), ih (i + 1) fu (c + 1) (by omega) (by omega) (by omega)]
      simp only [e1, beq_self_eq_true, if_true]
      rw [show c + 1 + List.count 47 (List.drop (i + 1) s) = c + (List.count 47 (List.drop (i + 1) s) + 1) by omega]
     ·have e1 : (s[i] == 47) = false := by simp; intro h; rw [h] at c1; simp at c1
      rw [aU (by simp; omega), ih (i + 1) fu c (by omega) (by omega) (by omega)]
      simp [e1]
   ·obtain ⟨t, ht, hh⟩ := ajA h (by omega)
    have hd := ahT h (by omega)
    rw [aU (by simp; omega), aU (by simp; omega), ih (i + (dec s i).2) fu c (by omega) (by omega) (by omega), ht, uZ hh (by decide), arq hh (by decide)]
  ·have ec : decide ((c : Int) ≤ 8) = decide (c ≤ 8) := by rw [decide_eq_decide]; omega
   rw [jQ, aU (by simpa using h), List.drop_eq_nil_of_le (by omega), ec]; simp <;> exact decide_eq_decide.2 Iff.rfl
theorem aoo (s : Str) : vB s = some (sizedB s) := by
 unfold vB sizedB
 by_cases c1 : s.length < 1
 ·rw [aO (by simp; omega)]; simp; omega
 ·rw [aU (by simp; omega)]
  by_cases c2 : s.length > 64
  ·rw [aO (by simp; omega)]; simp; omega
  ·have e1 : decide (1 ≤ s.length) = true := by simp; omega
   have e2 : decide (s.length ≤ 64) = true := by simp; omega
   rw [aU (by simp; omega), e1, e2]
   unfold xA
   have := av4 s s.length 0 fuel 1 (by omega) (by rw [fX]; omega) (by omega)
   rw [show ((1 : Nat) : Int) = 1 from rfl] at this
   rw [this]; simp [Nat.add_comm]
def cU : Str → List Str
 | [] => [[]]
 | b :: r => if b = 47 then [] :: cU r else match cU r with | [] => [[b]] | h :: t => (b :: h) :: t
theorem aaz (s : Str) : cU s ≠ [] := by
 cases s with
 | nil => simp [cU]
 | cons b r => simp only [cU]; split <;> (try simp); split <;> simp
theorem abg : ∀ s : Str, (cU s).length = s.count 47 + 1
 | [] => by simp [cU]
 | b :: r => by
  have ih := abg r
  simp only [cU, List.count_cons]
  by_cases h : b = 47
  ·simp [h, ih]
  ·rw [if_neg h]
   have hb : (b == 47) = false := by simpa using h
   cases hr : cU r with
   | nil => exact absurd hr (aaz r)
   | cons x t => rw [hr] at ih; simp [hb] at ih ⊢; omega
def aej (p : Str) : List Str → List Str
 | [] => [p]
 | h :: t => (p ++ h) :: t
theorem aqX (p r : Str) : aej p (cU (47 :: r)) = p :: cU r := by simp [cU, aej]
theorem aso (p r : Str) {b : UInt8} (h : b ≠ 47) : aej p (cU (b :: r)) = aej (p ++ [b]) (cU r) := by
 simp only [cU, if_neg h]
 cases hr : cU r with
 | nil => exact absurd hr (aaz r)
 | cons x t => simp [aej]
theorem av1 (s : Str) {a i : Nat} (h1 : a ≤ i) (h2 : i ≤ s.length) : bQ s (some (a : Int)) (some (i : Int)) = (s.take i).drop a := by simp [bQ]
theorem ats (s : Str) {a i : Nat} (h1 : a ≤ i) (h2 : i < s.length) : (s.take i).drop a ++ [s[i]] = (s.take (i + 1)).drop a := by
 rw [← abi h2, List.drop_append_of_le_length (by simp; omega)]
theorem anT (s : Str) (hl : s.length < 1000000) : ∀ (k i fu a : Nat) (acc : List Str), i + k = s.length → k < fu → a ≤ i → acc.length ≤ i →
  fR fu s (a : Int) (i : Int) acc = some (acc ++ aej ((s.take i).drop a) (cU (s.drop i))) := by
 intro k
 induction k with
 | zero =>
  intro i fu a acc hi hf ha hacc
  obtain ⟨fu, rfl⟩ : ∃ n, fu = n + 1 := ⟨fu - 1, by omega⟩
  have e : bQ s (some (a : Int)) none = (s.take i).drop a := by simp [bQ, List.take_of_length_le (show s.length ≤ i by omega)]
  rw [fR, aU (mX (by omega)), aO (by simp; omega), e, aO (by simp; omega), drop_nil s i (by omega)]
  simp [cU, aej]
 | succ k ih =>
  intro i fu a acc hi hf ha hacc
  obtain ⟨fu, rfl⟩ : ∃ n, fu = n + 1 := ⟨fu - 1, by omega⟩
  have h : i < s.length := by omega
  rw [fR, aO (eA h), aO (inr h), afx h, bN (by omega), List.drop_eq_getElem_cons (l := s) h]
  by_cases c : s[i].toNat = 47
  ·have e : s[i] = 47 := UInt8.toNat.inj (by simpa using c)
   rw [aO (by simp; omega), aO (by simp; omega), aO (by simp; omega), av1 s ha (by omega), aO (by simp; omega), ih (i + 1) fu (i + 1) _ (by omega) (by omega) (by omega) (by simp; omega), e, aqX]
   rw [drop_nil (s.take (i + 1)) _ (by simp; omega)]
   cases hr : cU (s.drop (i + 1)) with
   | nil => exact absurd hr (aaz _)
   | cons x t => simp [aej]
  ·have e : s[i] ≠ 47 := fun h => c (by rw [h]; rfl)
   rw [aU (by simp; omega), ih (i + 1) fu a acc (by omega) (by omega) (by omega) (by omega), aso _ _ e, ats s ha h]
theorem agF (s : Str) (hl : s.length < 1000000) : n5 s = some (cU s) := by
 have := anT s hl s.length 0 fuel 0 [] (by omega) (by rw [fX]; omega) (by omega) (by simp)
 have e : aej [] (cU s) = cU s := by
  cases hr : cU s with
  | nil => exact absurd hr (aaz _)
  | cons x t => simp [aej]
 simp only [List.drop_zero, List.take_zero, List.drop_nil, List.nil_append, e] at this
 exact this
theorem ahv (s : Str) : mK s = some (sizedB s) := by
 unfold mK sizedB
 by_cases c1 : s.length < 1
 ·rw [aU (by simp; omega)]; simp; omega
 ·rw [aO (by simp; omega)]
  by_cases c2 : s.length > 64
  ·rw [aU (by simp; omega)]; simp; omega
  ·have e1 : decide (1 ≤ s.length) = true := by simp; omega
   have e2 : decide (s.length ≤ 64) = true := by simp; omega
   rw [aO (by simp; omega), cQ (ahW s (by omega) 0 (n := 0) rfl), e1, e2, Bool.true_and, Bool.true_and]
   cases s.contains 0
   ·rw [aO (by rfl), cQ (agF s (by omega)), abg]
    simp; omega
   ·rw [aU (by rfl)]; rfl
def acU (s : Str) : Bool := sizedB s && !(s.contains 43) && !(s.contains 35)
theorem av2 (s : Str) : ∀ (k i fu : Nat), s.length - i ≤ k → k < fu → lA fu s i = some (!((s.drop i).contains 43) && !((s.drop i).contains 35)) := by
 intro k
 induction k with
 | zero =>
  intro i fu hi hf
  obtain ⟨fu, rfl⟩ : ∃ n, fu = n + 1 := ⟨fu - 1, by omega⟩
  rw [lA, aU (by simp; omega), List.drop_eq_nil_of_le (by omega)]; rfl
 | succ k ih =>
  intro i fu hi hf
  obtain ⟨fu, rfl⟩ : ∃ n, fu = n + 1 := ⟨fu - 1, by omega⟩
  by_cases h : i < s.length
  ·rw [lA, aO (by simpa using h)]
   by_cases lo : s[i].toNat < 128
   ·rw [akk h lo, List.drop_eq_getElem_cons h, List.contains_cons, List.contains_cons]
    simp only
    by_cases c0 : s[i].toNat = 43
    ·have e : s[i] = 43 := UInt8.toNat.inj (by simpa using c0)
     rw [aO (by simp; omega)]; simp [e]
    ·have e : (43 == s[i]) = false := by simp; intro h; rw [← h] at c0; simp at c0
     rw [aU (by simp; omega), e, Bool.false_or]
     by_cases c1 : s[i].toNat = 35
     ·have e1 : s[i] = 35 := UInt8.toNat.inj (by simpa using c1)
      rw [aO (by simp; omega)]; simp [e1]
     ·have e1 : (35 == s[i]) = false := by simp; intro h; rw [← h] at c1; simp at c1
      rw [aU (by simp; omega), ih (i + 1) fu (by omega) (by omega), e1, Bool.false_or]
   ·obtain ⟨t, ht, hh⟩ := ajA h (by omega)
    have hd := ahT h (by omega)
    rw [aU (by simp; omega), aU (by simp; omega), ih (i + (dec s i).2) fu (by omega) (by omega), ht, uZ hh (by decide), uZ hh (by decide)]
  ·rw [lA, aU (by simpa using h), List.drop_eq_nil_of_le (by omega)]; rfl
theorem ab5 {s : Str} (h : sizedB s = true) : 1 ≤ s.length ∧ s.length ≤ 64 := by
 simp only [sizedB, Bool.and_eq_true, decide_eq_true_eq] at h
 exact ⟨h.1.1.1, h.1.1.2⟩
theorem auu (s : Str) : yI s = some (acU s) := by
 unfold yI acU
 rw [cQ (aoo s)]
 cases h : sizedB s
 ·rw [aO (by rfl)]; rfl
 ·have := ab5 h
  rw [aU (by rfl), av2 s s.length 0 fuel (by omega) (by rw [fX]; omega)]
  simp
theorem anq (s : Str) : oZ s = some (acU s) := by
 unfold oZ acU
 rw [cQ (ahv s)]
 cases h : sizedB s
 ·rw [aU (by rfl)]; rfl
 ·have := ab5 h
  rw [aO (by rfl), cQ (ahW s (by omega) 43 (n := 43) rfl)]
  cases s.contains 43
  ·rw [aO (by rfl), cQ (ahW s (by omega) 35 (n := 35) rfl)]; rfl
  ·rw [aU (by rfl)]; rfl
end Md
end PX
