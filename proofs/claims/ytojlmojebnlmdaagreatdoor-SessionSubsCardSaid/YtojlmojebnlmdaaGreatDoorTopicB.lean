import Derived.Test.YtojlmojebnlmdaaGreatDoorTopicA
set_option linter.unusedVariables false
set_option linter.unusedSimpArgs false
namespace PX
open Go
namespace Md
theorem drop_nil {α : Type} (l : List α) (n : Nat) (h : l.length ≤ n) : l.drop n = [] := List.drop_eq_nil_of_le h
theorem aeV {s : Str} {i : Nat} (h : i < s.length) : List.getD s (Int.toNat (i : Int)) 0 = s[i] := by rw [Int.toNat_natCast, aij h]
theorem ajy (b : UInt8) : kZ (UInt8.toNat b : Int) = some (wB b) := by
 unfold kZ wB
 by_cases c : 97 ≤ b.toNat
 ·rw [aO (by simp; omega)]
  have e : decide (97 ≤ b.toNat) = true := by simpa using c
  rw [e, Bool.true_and]; congr 1; simp <;> omega
 ·rw [aT (by simp; omega)]
  have e : decide (97 ≤ b.toNat) = false := by simpa using c
  rw [e, Bool.false_and]
theorem ao6 (b : UInt8) : m5 (UInt8.toNat b : Int) = some (aeN b) := by
 unfold m5 aeN
 by_cases c : 48 ≤ b.toNat
 ·rw [aO (by simp; omega)]
  have e : decide (48 ≤ b.toNat) = true := by simpa using c
  rw [e, Bool.true_and]; congr 1; simp <;> omega
 ·rw [aT (by simp; omega)]
  have e : decide (48 ≤ b.toNat) = false := by simpa using c
  rw [e, Bool.false_and]
theorem alM (s : Str) (hl : s.length < 1000000000000000) : ∀ (k i fu : Nat), i + k = s.length → k < fu → eA fu s (i : Int) = some ((s.drop i).all pF) := by
 intro k
 induction k with
 | zero =>
  intro i fu hi hf
  obtain ⟨fu, rfl⟩ : ∃ n, fu = n + 1 := ⟨fu - 1, by omega⟩
  rw [eA, aT (tB (by omega)), List.drop_eq_nil_of_le (by omega)]; rfl
 | succ k ih =>
  intro i fu hi hf
  obtain ⟨fu, rfl⟩ : ∃ n, fu = n + 1 := ⟨fu - 1, by omega⟩
  have h : i < s.length := by omega
  rw [eA, aO (jX h), aO (inr h), aeV h, cV (ajy _), ajq h, bU (by omega), ih (i + 1) fu (by omega) (by omega)]
  unfold pF
  cases c1 : wB s[i]
  ·rw [aO (by rfl), aO (inr h), cV (ao6 _)]
   cases c2 : aeN s[i]
   ·rw [aO (by rfl), aO (inr h)]
    by_cases c3 : s[i].toNat = 45
    ·rw [aT (by simp; omega)]; simp [c3]
    ·rw [aO (by simp; omega)]; simp [c3]
   ·rw [aT (by rfl)]; simp
  ·rw [aT (by rfl)]; simp
theorem w5 (s : Str) (hl : s.length < 1000000000000000) : iH s = some (rH s) := by
 unfold iH rH
 by_cases c1 : s.length < 1
 ·rw [aO (by simp; omega)]; simp; omega
 ·rw [aT (by simp; omega)]
  by_cases c2 : s.length > 16
  ·rw [aO (by simp; omega)]; simp; omega
  ·have e1 : decide (1 ≤ s.length) = true := by simp; omega
   have e2 : decide (s.length ≤ 16) = true := by simp; omega
   rw [aT (by simp; omega), aO (by simp; omega), cV (ajy _), e1, e2]
   have e3 : List.getD s (Int.toNat 0) 0 = s.getD 0 0 := rfl
   rw [e3]
   cases c3 : wB (s.getD 0 0)
   ·rw [aO (by rfl)]; simp
   ·rw [aT (by rfl)]
    unfold oE
    have := alM s hl s.length 0 fuel (by omega) (by rw [j8]; omega)
    rw [show ((0 : Nat) : Int) = 0 from rfl] at this
    rw [this]; simp
theorem atY (s : Str) (hl : s.length < 1000000000000000) (c : UInt8) : ∀ (k i fu : Nat), i + k = s.length → k < fu → iP fu s (c.toNat : Int) (i : Int) = some ((s.drop i).contains c) := by
 intro k
 induction k with
 | zero =>
  intro i fu hi hf
  obtain ⟨fu, rfl⟩ : ∃ n, fu = n + 1 := ⟨fu - 1, by omega⟩
  rw [iP, aT (tB (by omega)), List.drop_eq_nil_of_le (by omega)]; rfl
 | succ k ih =>
  intro i fu hi hf
  obtain ⟨fu, rfl⟩ : ∃ n, fu = n + 1 := ⟨fu - 1, by omega⟩
  have h : i < s.length := by omega
  rw [iP, aO (jX h), aO (inr h), aeV h, bU (by omega), ih (i + 1) fu (by omega) (by omega), List.drop_eq_getElem_cons h, List.contains_cons]
  by_cases e : s[i] = c
  ·rw [aO (by simp [e])]; simp [e]
  ·have e2 : ¬ s[i].toNat = c.toNat := fun h => e (UInt8.toNat.inj h)
   rw [aT (by simp; omega)]
   have e3 : (c == s[i]) = false := by simp; exact fun h => e h.symm
   simp [e3]
theorem aev (s : Str) (hl : s.length < 1000000000000000) (c : UInt8) {n : Int} (hn : n = (c.toNat : Int)) : g8 s n = some (s.contains c) := by
 subst hn
 have := atY s hl c s.length 0 fuel (by omega) (by rw [j8]; omega)
 simpa [g8] using this
def sizedB (s : Str) : Bool := decide (1 ≤ s.length) && decide (s.length ≤ 64) && !(s.contains 0) && decide (s.count 47 + 1 ≤ 8)
theorem apY (s : Str) : ∀ (k i fu c : Nat), s.length - i ≤ k → k < fu → c + k < 1000000000 → iU fu (c : Int) s i = some (!((s.drop i).contains 0) && decide (c + (s.drop i).count 47 ≤ 8)) := by
 intro k
 induction k with
 | zero =>
  intro i fu c hi hf hc
  obtain ⟨fu, rfl⟩ : ∃ n, fu = n + 1 := ⟨fu - 1, by omega⟩
  have ec : decide ((c : Int) ≤ 8) = decide (c ≤ 8) := by rw [decide_eq_decide]; omega
  rw [iU, aT (by simp; omega), List.drop_eq_nil_of_le (by omega), ec]; simp <;> exact decide_eq_decide.2 Iff.rfl
 | succ k ih =>
  intro i fu c hi hf hc
  obtain ⟨fu, rfl⟩ : ∃ n, fu = n + 1 := ⟨fu - 1, by omega⟩
  by_cases h : i < s.length
  ·rw [iU, aO (by simpa using h)]
   by_cases lo : s[i].toNat < 128
   ·rw [ajo h lo, List.drop_eq_getElem_cons h, List.contains_cons, List.count_cons]
    simp only
    by_cases c0 : s[i].toNat = 0
    ·have e : s[i] = 0 := UInt8.toNat.inj (by simpa using c0)
     rw [aO (by simp; omega)]; simp [e]
    ·have e : (0 == s[i]) = false := by simp; intro h; rw [← h] at c0; simp at c0
     rw [aT (by simp; omega), e, Bool.false_or]
     by_cases c1 : s[i].toNat = 47
     ·have e1 : s[i] = 47 := UInt8.toNat.inj (by simpa using c1)
      rw [aO (by simp; omega), bU (by omega), ih (i + 1) fu (c + 1) (by omega) (by omega) (by omega)]
      simp only [e1, beq_self_eq_true, if_true]
      rw [show c + 1 + List.count 47 (List.drop (i + 1) s) = c + (List.count 47 (List.drop (i + 1) s) + 1) by omega]
     ·have e1 : (s[i] == 47) = false := by simp; intro h; rw [h] at c1; simp at c1
      rw [aT (by simp; omega), ih (i + 1) fu c (by omega) (by omega) (by omega)]
      simp [e1]
   ·obtain ⟨t, ht, hh⟩ := akt h (by omega)
    have hd := aht h (by omega)
    rw [aT (by simp; omega), aT (by simp; omega), ih (i + (dec s i).2) fu c (by omega) (by omega) (by omega), ht, yE hh (by decide), alS hh (by decide)]
  ·have ec : decide ((c : Int) ≤ 8) = decide (c ≤ 8) := by rw [decide_eq_decide]; omega
   rw [iU, aT (by simpa using h), List.drop_eq_nil_of_le (by omega), ec]; simp <;> exact decide_eq_decide.2 Iff.rfl
theorem aoz (s : Str) : q0 s = some (sizedB s) := by
 unfold q0 sizedB
 by_cases c1 : s.length < 1
 ·rw [aO (by simp; omega)]; simp; omega
 ·rw [aT (by simp; omega)]
  by_cases c2 : s.length > 64
  ·rw [aO (by simp; omega)]; simp; omega
  ·have e1 : decide (1 ≤ s.length) = true := by simp; omega
   have e2 : decide (s.length ≤ 64) = true := by simp; omega
   rw [aT (by simp; omega), e1, e2]
   unfold sQ
   have := apY s s.length 0 fuel 1 (by omega) (by rw [j8]; omega) (by omega)
   rw [show ((1 : Nat) : Int) = 1 from rfl] at this
   rw [this]; simp [Nat.add_comm]
def bX : Str → List Str
 | [] => [[]]
 | b :: r => if b = 47 then [] :: bX r else match bX r with | [] => [[b]] | h :: t => (b :: h) :: t
theorem vP (s : Str) : bX s ≠ [] := by
 cases s with
 | nil => simp [bX]
 | cons b r => simp only [bX]; split <;> (try simp); split <;> simp
theorem w8 : ∀ s : Str, (bX s).length = s.count 47 + 1
 | [] => by simp [bX]
 | b :: r => by
  have ih := w8 r
  simp only [bX, List.count_cons]
  by_cases h : b = 47
  ·simp [h, ih]
  ·rw [if_neg h]
   have hb : (b == 47) = false := by simpa using h
   cases hr : bX r with
   | nil => exact absurd hr (vP r)
   | cons x t => rw [hr] at ih; simp [hb] at ih ⊢; omega
def abt (p : Str) : List Str → List Str
 | [] => [p]
 | h :: t => (p ++ h) :: t
theorem alZ (p r : Str) : abt p (bX (47 :: r)) = p :: bX r := by simp [bX, abt]
theorem anq (p r : Str) {b : UInt8} (h : b ≠ 47) : abt p (bX (b :: r)) = abt (p ++ [b]) (bX r) := by
 simp only [bX, if_neg h]
 cases hr : bX r with
 | nil => exact absurd hr (vP r)
 | cons x t => simp [abt]
theorem ap1 (s : Str) {a i : Nat} (h1 : a ≤ i) (h2 : i ≤ s.length) : bS s (some (a : Int)) (some (i : Int)) = (s.take i).drop a := by simp [bS]
theorem anz (s : Str) {a i : Nat} (h1 : a ≤ i) (h2 : i < s.length) : (s.take i).drop a ++ [s[i]] = (s.take (i + 1)).drop a := by
 rw [← aaU h2, List.drop_append_of_le_length (by simp; omega)]
theorem ajT (s : Str) (hl : s.length < 1000000) : ∀ (k i fu a : Nat) (acc : List Str), i + k = s.length → k < fu → a ≤ i → acc.length ≤ i →
  eE fu s (a : Int) (i : Int) acc = some (acc ++ abt ((s.take i).drop a) (bX (s.drop i))) := by
 intro k
 induction k with
 | zero =>
  intro i fu a acc hi hf ha hacc
  obtain ⟨fu, rfl⟩ : ∃ n, fu = n + 1 := ⟨fu - 1, by omega⟩
  have e : bS s (some (a : Int)) none = (s.take i).drop a := by simp [bS, List.take_of_length_le (show s.length ≤ i by omega)]
  rw [eE, aT (tB (by omega)), aO (by simp; omega), e, aO (by simp; omega), drop_nil s i (by omega)]
  simp [bX, abt]
 | succ k ih =>
  intro i fu a acc hi hf ha hacc
  obtain ⟨fu, rfl⟩ : ∃ n, fu = n + 1 := ⟨fu - 1, by omega⟩
  have h : i < s.length := by omega
  rw [eE, aO (jX h), aO (inr h), aeV h, bU (by omega), List.drop_eq_getElem_cons (l := s) h]
  by_cases c : s[i].toNat = 47
  ·have e : s[i] = 47 := UInt8.toNat.inj (by simpa using c)
   rw [aO (by simp; omega), aO (by simp; omega), aO (by simp; omega), ap1 s ha (by omega), aO (by simp; omega), ih (i + 1) fu (i + 1) _ (by omega) (by omega) (by omega) (by simp; omega), e, alZ]
   rw [drop_nil (s.take (i + 1)) _ (by simp; omega)]
   cases hr : bX (s.drop (i + 1)) with
   | nil => exact absurd hr (vP _)
   | cons x t => simp [abt]
  ·have e : s[i] ≠ 47 := fun h => c (by rw [h]; rfl)
   rw [aT (by simp; omega), ih (i + 1) fu a acc (by omega) (by omega) (by omega) (by omega), anq _ _ e, anz s ha h]
theorem adL (s : Str) (hl : s.length < 1000000) : l4 s = some (bX s) := by
 have := ajT s hl s.length 0 fuel 0 [] (by omega) (by rw [j8]; omega) (by omega) (by simp)
 have e : abt [] (bX s) = bX s := by
  cases hr : bX s with
  | nil => exact absurd hr (vP _)
  | cons x t => simp [abt]
 simp only [List.drop_zero, List.take_zero, List.drop_nil, List.nil_append, e] at this
 exact this
theorem ad8 (s : Str) : kW s = some (sizedB s) := by
 unfold kW sizedB
 by_cases c1 : s.length < 1
 ·rw [aT (by simp; omega)]; simp; omega
 ·rw [aO (by simp; omega)]
  by_cases c2 : s.length > 64
  ·rw [aT (by simp; omega)]; simp; omega
  ·have e1 : decide (1 ≤ s.length) = true := by simp; omega
   have e2 : decide (s.length ≤ 64) = true := by simp; omega
   rw [aO (by simp; omega), cV (aev s (by omega) 0 (n := 0) rfl), e1, e2, Bool.true_and, Bool.true_and]
   cases s.contains 0
   ·rw [aO (by rfl), cV (adL s (by omega)), w8]
    simp; omega
   ·rw [aT (by rfl)]; rfl
def ake (s : Str) : Bool := sizedB s && !(s.contains 43) && !(s.contains 35)
theorem ady {s : Str} (h : sizedB s = true) : 1 ≤ s.length ∧ s.length ≤ 64 := by
 simp only [sizedB, Bool.and_eq_true, decide_eq_true_eq] at h
 exact ⟨h.1.1.1, h.1.1.2⟩
theorem aj4 (s : Str) : mT s = some (ake s) := by
 unfold mT ake
 rw [cV (ad8 s)]
 cases h : sizedB s
 ·rw [aT (by rfl)]; rfl
 ·have := ady h
  rw [aO (by rfl), cV (aev s (by omega) 43 (n := 43) rfl)]
  cases s.contains 43
  ·rw [aO (by rfl), cV (aev s (by omega) 35 (n := 35) rfl)]; rfl
  ·rw [aT (by rfl)]; rfl
end Md
end PX
