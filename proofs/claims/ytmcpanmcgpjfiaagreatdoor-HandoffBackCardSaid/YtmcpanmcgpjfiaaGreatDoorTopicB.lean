import Derived.Test.YtmcpanmcgpjfiaaGreatDoorTopicA
set_option linter.unusedVariables false
set_option linter.unusedSimpArgs false
namespace PX
open Go
namespace Md
theorem drop_nil {α : Type} (l : List α) (n : Nat) (h : l.length ≤ n) : l.drop n = [] := List.drop_eq_nil_of_le h
theorem agn {s : Str} {i : Nat} (h : i < s.length) : List.getD s (Int.toNat (i : Int)) 0 = s[i] := by rw [Int.toNat_natCast, ajN h]
theorem ap5 (b : UInt8) : oN (UInt8.toNat b : Int) = some (acp b) := by
 unfold oN acp
 by_cases c : 97 ≤ b.toNat
 ·rw [aL (by simp; omega)]
  have e : decide (97 ≤ b.toNat) = true := by simpa using c
  rw [e, Bool.true_and]; congr 1; simp <;> omega
 ·rw [aS (by simp; omega)]
  have e : decide (97 ≤ b.toNat) = false := by simpa using c
  rw [e, Bool.false_and]
theorem avd (b : UInt8) : rM (UInt8.toNat b : Int) = some (ai7 b) := by
 unfold rM ai7
 by_cases c : 48 ≤ b.toNat
 ·rw [aL (by simp; omega)]
  have e : decide (48 ≤ b.toNat) = true := by simpa using c
  rw [e, Bool.true_and]; congr 1; simp <;> omega
 ·rw [aS (by simp; omega)]
  have e : decide (48 ≤ b.toNat) = false := by simpa using c
  rw [e, Bool.false_and]
theorem asQ (s : Str) (hl : s.length < 1000000000000000) : ∀ (k i fu : Nat), i + k = s.length → k < fu → gT fu s (i : Int) = some ((s.drop i).all uF) := by
 intro k
 induction k with
 | zero =>
  intro i fu hi hf
  obtain ⟨fu, rfl⟩ : ∃ n, fu = n + 1 := ⟨fu - 1, by omega⟩
  rw [gT, aS (aaL (by omega)), List.drop_eq_nil_of_le (by omega)]; rfl
 | succ k ih =>
  intro i fu hi hf
  obtain ⟨fu, rfl⟩ : ∃ n, fu = n + 1 := ⟨fu - 1, by omega⟩
  have h : i < s.length := by omega
  rw [gT, aL (hI h), aL (inr h), agn h, eK (ap5 _), apc h, cF (by omega), ih (i + 1) fu (by omega) (by omega)]
  unfold uF
  cases c1 : acp s[i]
  ·rw [aL (by rfl), aL (inr h), eK (avd _)]
   cases c2 : ai7 s[i]
   ·rw [aL (by rfl), aL (inr h)]
    by_cases c3 : s[i].toNat = 45
    ·rw [aS (by simp; omega)]; simp [c3]
    ·rw [aL (by simp; omega)]; simp [c3]
   ·rw [aS (by rfl)]; simp
  ·rw [aS (by rfl)]; simp
theorem xF (s : Str) (hl : s.length < 1000000000000000) : fQ s = some (gS s) := by
 unfold fQ gS
 by_cases c1 : s.length < 1
 ·rw [aL (by simp; omega)]; simp; omega
 ·rw [aS (by simp; omega)]
  by_cases c2 : s.length > 16
  ·rw [aL (by simp; omega)]; simp; omega
  ·have e1 : decide (1 ≤ s.length) = true := by simp; omega
   have e2 : decide (s.length ≤ 16) = true := by simp; omega
   rw [aS (by simp; omega), aL (by simp; omega), eK (ap5 _), e1, e2]
   have e3 : List.getD s (Int.toNat 0) 0 = s.getD 0 0 := rfl
   rw [e3]
   cases c3 : acp (s.getD 0 0)
   ·rw [aL (by rfl)]; simp
   ·rw [aS (by rfl)]
    unfold tG
    have := asQ s hl s.length 0 fuel (by omega) (by rw [hY]; omega)
    rw [show ((0 : Nat) : Int) = 0 from rfl] at this
    rw [this]; simp
theorem aEf (s : Str) (hl : s.length < 1000000000000000) (c : UInt8) : ∀ (k i fu : Nat), i + k = s.length → k < fu → lS fu s (c.toNat : Int) (i : Int) = some ((s.drop i).contains c) := by
 intro k
 induction k with
 | zero =>
  intro i fu hi hf
  obtain ⟨fu, rfl⟩ : ∃ n, fu = n + 1 := ⟨fu - 1, by omega⟩
  rw [lS, aS (aaL (by omega)), List.drop_eq_nil_of_le (by omega)]; rfl
 | succ k ih =>
  intro i fu hi hf
  obtain ⟨fu, rfl⟩ : ∃ n, fu = n + 1 := ⟨fu - 1, by omega⟩
  have h : i < s.length := by omega
  rw [lS, aL (hI h), aL (inr h), agn h, cF (by omega), ih (i + 1) fu (by omega) (by omega), List.drop_eq_getElem_cons h, List.contains_cons]
  by_cases e : s[i] = c
  ·rw [aL (by simp [e])]; simp [e]
  ·have e2 : ¬ s[i].toNat = c.toNat := fun h => e (UInt8.toNat.inj h)
   rw [aS (by simp; omega)]
   have e3 : (c == s[i]) = false := by simp; exact fun h => e h.symm
   simp [e3]
theorem aiF (s : Str) (hl : s.length < 1000000000000000) (c : UInt8) {n : Int} (hn : n = (c.toNat : Int)) : kO s n = some (s.contains c) := by
 subst hn
 have := aEf s hl c s.length 0 fuel (by omega) (by rw [hY]; omega)
 simpa [kO] using this
def sizedB (s : Str) : Bool := decide (1 ≤ s.length) && decide (s.length ≤ 64) && !(s.contains 0) && decide (s.count 47 + 1 ≤ 8)
theorem ax4 (s : Str) : ∀ (k i fu c : Nat), s.length - i ≤ k → k < fu → c + k < 1000000000 → mF fu (c : Int) s i = some (!((s.drop i).contains 0) && decide (c + (s.drop i).count 47 ≤ 8)) := by
 intro k
 induction k with
 | zero =>
  intro i fu c hi hf hc
  obtain ⟨fu, rfl⟩ : ∃ n, fu = n + 1 := ⟨fu - 1, by omega⟩
  have ec : decide ((c : Int) ≤ 8) = decide (c ≤ 8) := by rw [decide_eq_decide]; omega
  rw [mF, aS (by simp; omega), List.drop_eq_nil_of_le (by omega), ec]; simp <;> exact decide_eq_decide.2 Iff.rfl
 | succ k ih =>
  intro i fu c hi hf hc
  obtain ⟨fu, rfl⟩ : ∃ n, fu = n + 1 := ⟨fu - 1, by omega⟩
  by_cases h : i < s.length
  ·rw [mF, aL (by simpa using h)]
   by_cases lo : s[i].toNat < 128
   ·rw [amr h lo, List.drop_eq_getElem_cons h, List.contains_cons, List.count_cons]
    simp only
    by_cases c0 : s[i].toNat = 0
    ·have e : s[i] = 0 := UInt8.toNat.inj (by simpa using c0)
     rw [aL (by simp; omega)]; simp [e]
    ·have e : (0 == s[i]) = false := by simp; intro h; rw [← h] at c0; simp at c0
     rw [aS (by simp; omega), e, Bool.false_or]
     by_cases c1 : s[i].toNat = 47
     ·have e1 : s[i] = 47 := UInt8.toNat.inj (by simpa using c1)
      rw [aL (by simp; omega), cF (by omega), ih (i + 1) fu (c + 1) (by omega) (by omega) (by omega)]
      simp only [e1, beq_self_eq_true, if_true]
      rw [show c + 1 + List.count 47 (List.drop (i + 1) s) = c + (List.count 47 (List.drop (i + 1) s) + 1) by omega]
     ·have e1 : (s[i] == 47) = false := by simp; intro h; rw [h] at c1; simp at c1
      rw [aS (by simp; omega), ih (i + 1) fu c (by omega) (by omega) (by omega)]
      simp [e1]
   ·obtain ⟨t, ht, hh⟩ := ald h (by omega)
    have hd := aiZ h (by omega)
    rw [aS (by simp; omega), aS (by simp; omega), ih (i + (dec s i).2) fu c (by omega) (by omega) (by omega), ht, wT hh (by decide), as6 hh (by decide)]
  ·have ec : decide ((c : Int) ≤ 8) = decide (c ≤ 8) := by rw [decide_eq_decide]; omega
   rw [mF, aS (by simpa using h), List.drop_eq_nil_of_le (by omega), ec]; simp <;> exact decide_eq_decide.2 Iff.rfl
theorem apf (s : Str) : xD s = some (sizedB s) := by
 unfold xD sizedB
 by_cases c1 : s.length < 1
 ·rw [aL (by simp; omega)]; simp; omega
 ·rw [aS (by simp; omega)]
  by_cases c2 : s.length > 64
  ·rw [aL (by simp; omega)]; simp; omega
  ·have e1 : decide (1 ≤ s.length) = true := by simp; omega
   have e2 : decide (s.length ≤ 64) = true := by simp; omega
   rw [aS (by simp; omega), e1, e2]
   unfold zD
   have := ax4 s s.length 0 fuel 1 (by omega) (by rw [hY]; omega) (by omega)
   rw [show ((1 : Nat) : Int) = 1 from rfl] at this
   rw [this]; simp [Nat.add_comm]
def dO : Str → List Str
 | [] => [[]]
 | b :: r => if b = 47 then [] :: dO r else match dO r with | [] => [[b]] | h :: t => (b :: h) :: t
theorem abv (s : Str) : dO s ≠ [] := by
 cases s with
 | nil => simp [dO]
 | cons b r => simp only [dO]; split <;> (try simp); split <;> simp
theorem acD : ∀ s : Str, (dO s).length = s.count 47 + 1
 | [] => by simp [dO]
 | b :: r => by
  have ih := acD r
  simp only [dO, List.count_cons]
  by_cases h : b = 47
  ·simp [h, ih]
  ·rw [if_neg h]
   have hb : (b == 47) = false := by simpa using h
   cases hr : dO r with
   | nil => exact absurd hr (abv r)
   | cons x t => rw [hr] at ih; simp [hb] at ih ⊢; omega
def afO (p : Str) : List Str → List Str
 | [] => [p]
 | h :: t => (p ++ h) :: t
theorem asO (p r : Str) : afO p (dO (47 :: r)) = p :: dO r := by simp [dO, afO]
theorem auw (p r : Str) {b : UInt8} (h : b ≠ 47) : afO p (dO (b :: r)) = afO (p ++ [b]) (dO r) := by
 simp only [dO, if_neg h]
 cases hr : dO r with
 | nil => exact absurd hr (abv r)
 | cons x t => simp [afO]
theorem ax5 (s : Str) {a i : Nat} (h1 : a ≤ i) (h2 : i ≤ s.length) : dB s (some (a : Int)) (some (i : Int)) = (s.take i).drop a := by simp [dB]
theorem awY (s : Str) {a i : Nat} (h1 : a ≤ i) (h2 : i < s.length) : (s.take i).drop a ++ [s[i]] = (s.take (i + 1)).drop a := by
 rw [← auT h2, List.drop_append_of_le_length (by simp; omega)]
theorem apH (s : Str) (hl : s.length < 1000000) : ∀ (k i fu a : Nat) (acc : List Str), i + k = s.length → k < fu → a ≤ i → acc.length ≤ i →
  gW fu s (a : Int) (i : Int) acc = some (acc ++ afO ((s.take i).drop a) (dO (s.drop i))) := by
 intro k
 induction k with
 | zero =>
  intro i fu a acc hi hf ha hacc
  obtain ⟨fu, rfl⟩ : ∃ n, fu = n + 1 := ⟨fu - 1, by omega⟩
  have e : dB s (some (a : Int)) none = (s.take i).drop a := by simp [dB, List.take_of_length_le (show s.length ≤ i by omega)]
  rw [gW, aS (aaL (by omega)), aL (by simp; omega), e, aL (by simp; omega), drop_nil s i (by omega)]
  simp [dO, afO]
 | succ k ih =>
  intro i fu a acc hi hf ha hacc
  obtain ⟨fu, rfl⟩ : ∃ n, fu = n + 1 := ⟨fu - 1, by omega⟩
  have h : i < s.length := by omega
  rw [gW, aL (hI h), aL (inr h), agn h, cF (by omega), List.drop_eq_getElem_cons (l := s) h]
  by_cases c : s[i].toNat = 47
  ·have e : s[i] = 47 := UInt8.toNat.inj (by simpa using c)
   rw [aL (by simp; omega), aL (by simp; omega), aL (by simp; omega), ax5 s ha (by omega), aL (by simp; omega), ih (i + 1) fu (i + 1) _ (by omega) (by omega) (by omega) (by simp; omega), e, asO]
   rw [drop_nil (s.take (i + 1)) _ (by simp; omega)]
   cases hr : dO (s.drop (i + 1)) with
   | nil => exact absurd hr (abv _)
   | cons x t => simp [afO]
  ·have e : s[i] ≠ 47 := fun h => c (by rw [h]; rfl)
   rw [aS (by simp; omega), ih (i + 1) fu a acc (by omega) (by omega) (by omega) (by omega), auw _ _ e, awY s ha h]
theorem ahL (s : Str) (hl : s.length < 1000000) : qG s = some (dO s) := by
 have := apH s hl s.length 0 fuel 0 [] (by omega) (by rw [hY]; omega) (by omega) (by simp)
 have e : afO [] (dO s) = dO s := by
  cases hr : dO s with
  | nil => exact absurd hr (abv _)
  | cons x t => simp [afO]
 simp only [List.drop_zero, List.take_zero, List.drop_nil, List.nil_append, e] at this
 exact this
theorem ai4 (s : Str) : oQ s = some (sizedB s) := by
 unfold oQ sizedB
 by_cases c1 : s.length < 1
 ·rw [aS (by simp; omega)]; simp; omega
 ·rw [aL (by simp; omega)]
  by_cases c2 : s.length > 64
  ·rw [aS (by simp; omega)]; simp; omega
  ·have e1 : decide (1 ≤ s.length) = true := by simp; omega
   have e2 : decide (s.length ≤ 64) = true := by simp; omega
   rw [aL (by simp; omega), eK (aiF s (by omega) 0 (n := 0) rfl), e1, e2, Bool.true_and, Bool.true_and]
   cases s.contains 0
   ·rw [aL (by rfl), eK (ahL s (by omega)), acD]
    simp; omega
   ·rw [aS (by rfl)]; rfl
def yT (s : Str) : Bool := sizedB s && !(s.contains 43) && !(s.contains 35)
theorem ax6 (s : Str) : ∀ (k i fu : Nat), s.length - i ≤ k → k < fu → nN fu s i = some (!((s.drop i).contains 43) && !((s.drop i).contains 35)) := by
 intro k
 induction k with
 | zero =>
  intro i fu hi hf
  obtain ⟨fu, rfl⟩ : ∃ n, fu = n + 1 := ⟨fu - 1, by omega⟩
  rw [nN, aS (by simp; omega), List.drop_eq_nil_of_le (by omega)]; rfl
 | succ k ih =>
  intro i fu hi hf
  obtain ⟨fu, rfl⟩ : ∃ n, fu = n + 1 := ⟨fu - 1, by omega⟩
  by_cases h : i < s.length
  ·rw [nN, aL (by simpa using h)]
   by_cases lo : s[i].toNat < 128
   ·rw [amr h lo, List.drop_eq_getElem_cons h, List.contains_cons, List.contains_cons]
    simp only
    by_cases c0 : s[i].toNat = 43
    ·have e : s[i] = 43 := UInt8.toNat.inj (by simpa using c0)
     rw [aL (by simp; omega)]; simp [e]
    ·have e : (43 == s[i]) = false := by simp; intro h; rw [← h] at c0; simp at c0
     rw [aS (by simp; omega), e, Bool.false_or]
     by_cases c1 : s[i].toNat = 35
     ·have e1 : s[i] = 35 := UInt8.toNat.inj (by simpa using c1)
      rw [aL (by simp; omega)]; simp [e1]
     ·have e1 : (35 == s[i]) = false := by simp; intro h; rw [← h] at c1; simp at c1
      rw [aS (by simp; omega), ih (i + 1) fu (by omega) (by omega), e1, Bool.false_or]
   ·obtain ⟨t, ht, hh⟩ := ald h (by omega)
    have hd := aiZ h (by omega)
    rw [aS (by simp; omega), aS (by simp; omega), ih (i + (dec s i).2) fu (by omega) (by omega), ht, wT hh (by decide), wT hh (by decide)]
  ·rw [nN, aS (by simpa using h), List.drop_eq_nil_of_le (by omega)]; rfl
theorem adq {s : Str} (h : sizedB s = true) : 1 ≤ s.length ∧ s.length ≤ 64 := by
 simp only [sizedB, Bool.and_eq_true, decide_eq_true_eq] at h
 exact ⟨h.1.1.1, h.1.1.2⟩
theorem aqy (s : Str) : aan s = some (yT s) := by
 unfold aan yT
 rw [eK (apf s)]
 cases h : sizedB s
 ·rw [aL (by rfl)]; rfl
 ·have := adq h
  rw [aS (by rfl), ax6 s s.length 0 fuel (by omega) (by rw [hY]; omega)]
  simp
theorem ai2 (s : Str) : rQ s = some (yT s) := by
 unfold rQ yT
 rw [eK (ai4 s)]
 cases h : sizedB s
 ·rw [aS (by rfl)]; rfl
 ·have := adq h
  rw [aL (by rfl), eK (aiF s (by omega) 43 (n := 43) rfl)]
  cases s.contains 43
  ·rw [aL (by rfl), eK (aiF s (by omega) 35 (n := 35) rfl)]; rfl
  ·rw [aS (by rfl)]; rfl
end Md
end PX
