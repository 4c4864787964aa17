import Derived.Test.YtdgmdomlghamdaaGreatDoorMod
import Derived.Test.YtdgmdomlghamdaaGreatDoorPXc
set_option linter.unusedVariables false
set_option linter.unusedSimpArgs false
namespace PX
open Go
namespace Md
def acB (b : UInt8) : Bool := decide (97 ≤ b.toNat) && decide (b.toNat ≤ 122)
def ai6 (b : UInt8) : Bool := decide (48 ≤ b.toNat) && decide (b.toNat ≤ 57)
def uD (b : UInt8) : Bool := acB b || ai6 b || decide (b.toNat = 45)
def nC (s : Str) : Bool := decide (1 ≤ s.length) && decide (s.length ≤ 16) && acB (s.getD 0 0) && s.all uD
theorem aqo {s : Str} {i : Nat} (h : i < s.length) (f : UInt8 → Bool) : (s.drop i).all f = (f s[i] && (s.drop (i + 1)).all f) := by
 rw [List.drop_eq_getElem_cons h, List.all_cons]
theorem azx (k4 : Str → Nat → Option Bool) (i v w : Nat) (s : Str) :
  (cond (decide ((v : Int) ≥ 97)) (qV k4 (i : Int) (v : Int) (decide ((v : Int) ≤ 122)) s (i + w)) (qV k4 (i : Int) (v : Int) false s (i + w))) =
   if 97 ≤ v ∧ v ≤ 122 then k4 s (i + w) else if i = 0 then some false else if v = 45 ∨ (48 ≤ v ∧ v ≤ 57) then k4 s (i + w) else some false := by
 unfold qV
 by_cases c1 : 97 ≤ v
 ·rw [aL (by simp; omega)]
  by_cases c2 : v ≤ 122
  ·rw [if_pos ⟨c1, c2⟩, aQ (by simp; omega)]
  ·rw [if_neg (by omega), aL (by simp; omega)]
   by_cases c3 : i = 0
   ·rw [if_pos c3, aL (by simpa using c3)]
   ·rw [if_neg c3, aQ (by simpa using c3), if_neg (by omega), aL (by simp; omega), aQ (by simp; omega), aL (by simp; omega)]
 ·rw [aQ (by simp; omega), if_neg (by omega), aL (by rfl)]
  by_cases c3 : i = 0
  ·rw [if_pos c3, aL (by simpa using c3)]
  ·rw [if_neg c3, aQ (by simpa using c3)]
   by_cases c4 : v = 45
   ·rw [if_pos (.inl c4), aQ (by simp; omega)]
   ·rw [aL (by simp; omega)]
    by_cases c5 : v < 48
    ·rw [if_neg (by omega), aL (by simp; omega)]
    ·rw [aQ (by simp; omega)]
     by_cases c6 : v > 57
     ·rw [if_neg (by omega), aL (by simp; omega)]
     ·rw [if_pos (by omega), aQ (by simp; omega)]
theorem aCj (s : Str) (hs : 0 < s.length) : ∀ (k i fu : Nat), s.length - i ≤ k → k < fu → mN fu s i = some ((s.drop i).all uD && (decide (i ≠ 0) || acB (s.getD 0 0))) := by
 intro k
 induction k with
 | zero =>
  intro i fu hi hf
  obtain ⟨fu, rfl⟩ : ∃ n, fu = n + 1 := ⟨fu - 1, by omega⟩
  rw [mN, aQ (by simp; omega), List.drop_eq_nil_of_le (by omega)]
  simp; omega
 | succ k ih =>
  intro i fu hi hf
  obtain ⟨fu, rfl⟩ : ∃ n, fu = n + 1 := ⟨fu - 1, by omega⟩
  by_cases h : i < s.length
  ·rw [mN, aL (by simpa using h), azx, aqo h]
   by_cases lo : s[i].toNat < 128
   ·rw [amb h lo]
    simp only
    have h0 : i = 0 → s.getD 0 0 = s[i] := by rintro rfl; rw [akm hs]
    by_cases c1 : 97 ≤ s[i].toNat ∧ s[i].toNat ≤ 122
    ·have e1 : acB s[i] = true := by simp [acB, c1]
     rw [if_pos c1, ih (i + 1) fu (by omega) (by omega)]
     by_cases hz : i = 0
     ·rw [h0 hz, e1]; simp [uD, e1]
     ·simp [uD, e1, hz]
    ·have e1 : acB s[i] = false := by simp [acB]; omega
     rw [if_neg c1]
     by_cases hz : i = 0
     ·rw [if_pos hz, h0 hz, e1]; simp [hz]
     ·rw [if_neg hz]
      by_cases c2 : s[i].toNat = 45 ∨ (48 ≤ s[i].toNat ∧ s[i].toNat ≤ 57)
      ·rw [if_pos c2, ih (i + 1) fu (by omega) (by omega)]
       have e2 : uD s[i] = true := by
        simp only [uD, ai6, Bool.or_eq_true, Bool.and_eq_true, decide_eq_true_eq]; omega
       simp [e2, hz]
      ·rw [if_neg c2]
       have e2 : uD s[i] = false := by
        simp only [uD, e1, ai6, Bool.false_or, Bool.or_eq_false_iff, Bool.and_eq_false_iff, decide_eq_false_iff_not]; omega
       simp [e2]
   ·have hd := ajZ h (by omega)
    have e2 : uD s[i] = false := by
     simp only [uD, acB, ai6, Bool.or_eq_false_iff, Bool.and_eq_false_iff, decide_eq_false_iff_not]; omega
    rw [if_neg (by omega)]
    by_cases hz : i = 0
    ·rw [if_pos hz]; simp [e2]
    ·rw [if_neg hz, if_neg (by omega)]; simp [e2]
  ·rw [mN, aQ (by simpa using h), List.drop_eq_nil_of_le (by omega)]
   simp; omega
theorem ag8 (s : Str) (hl : s.length < 1000000000000000) : pJ s = some (nC s) := by
 unfold pJ nC
 by_cases c1 : s.length < 1
 ·rw [aL (by simp; omega)]; simp; omega
 ·rw [aQ (by simp; omega)]
  by_cases c2 : s.length > 16
  ·rw [aL (by simp; omega)]; simp; omega
  ·rw [aQ (by simp; omega)]
   unfold aaA
   rw [aCj s (by omega) s.length 0 fuel (by omega) (by rw [hY]; omega)]
   have e1 : decide (1 ≤ s.length) = true := by simp; omega
   have e2 : decide (s.length ≤ 16) = true := by simp; omega
   simp [e1, e2, Bool.and_comm]
end Md
end PX
set_option linter.unusedVariables false
set_option linter.unusedSimpArgs false
namespace PX
open Go
namespace Md
theorem drop_nil {α : Type} (l : List α) (n : Nat) (h : l.length ≤ n) : l.drop n = [] := List.drop_eq_nil_of_le h
theorem ag4 {s : Str} {i : Nat} (h : i < s.length) : List.getD s (Int.toNat (i : Int)) 0 = s[i] := by rw [Int.toNat_natCast, akm h]
theorem apO (b : UInt8) : oJ (UInt8.toNat b : Int) = some (acB b) := by
 unfold oJ acB
 by_cases c : 97 ≤ b.toNat
 ·rw [aL (by simp; omega)]
  have e : decide (97 ≤ b.toNat) = true := by simpa using c
  rw [e, Bool.true_and]; congr 1; simp <;> omega
 ·rw [aQ (by simp; omega)]
  have e : decide (97 ≤ b.toNat) = false := by simpa using c
  rw [e, Bool.false_and]
theorem awB (b : UInt8) : rC (UInt8.toNat b : Int) = some (ai6 b) := by
 unfold rC ai6
 by_cases c : 48 ≤ b.toNat
 ·rw [aL (by simp; omega)]
  have e : decide (48 ≤ b.toNat) = true := by simpa using c
  rw [e, Bool.true_and]; congr 1; simp <;> omega
 ·rw [aQ (by simp; omega)]
  have e : decide (48 ≤ b.toNat) = false := by simpa using c
  rw [e, Bool.false_and]
theorem aud (s : Str) (hl : s.length < 1000000000000000) : ∀ (k i fu : Nat), i + k = s.length → k < fu → hO fu s (i : Int) = some ((s.drop i).all uD) := by
 intro k
 induction k with
 | zero =>
  intro i fu hi hf
  obtain ⟨fu, rfl⟩ : ∃ n, fu = n + 1 := ⟨fu - 1, by omega⟩
  rw [hO, aQ (pT (by omega)), List.drop_eq_nil_of_le (by omega)]; rfl
 | succ k ih =>
  intro i fu hi hf
  obtain ⟨fu, rfl⟩ : ∃ n, fu = n + 1 := ⟨fu - 1, by omega⟩
  have h : i < s.length := by omega
  rw [hO, aL (iV h), aL (inr h), ag4 h, dH (apO _), aqo h, bZ (by omega), ih (i + 1) fu (by omega) (by omega)]
  unfold uD
  cases c1 : acB s[i]
  ·rw [aL (by rfl), aL (inr h), dH (awB _)]
   cases c2 : ai6 s[i]
   ·rw [aL (by rfl), aL (inr h)]
    by_cases c3 : s[i].toNat = 45
    ·rw [aQ (by simp; omega)]; simp [c3]
    ·rw [aL (by simp; omega)]; simp [c3]
   ·rw [aQ (by rfl)]; simp
  ·rw [aQ (by rfl)]; simp
theorem aaq (s : Str) (hl : s.length < 1000000000000000) : iW s = some (nC s) := by
 unfold iW nC
 by_cases c1 : s.length < 1
 ·rw [aL (by simp; omega)]; simp; omega
 ·rw [aQ (by simp; omega)]
  by_cases c2 : s.length > 16
  ·rw [aL (by simp; omega)]; simp; omega
  ·have e1 : decide (1 ≤ s.length) = true := by simp; omega
   have e2 : decide (s.length ≤ 16) = true := by simp; omega
   rw [aQ (by simp; omega), aL (by simp; omega), dH (apO _), e1, e2]
   have e3 : List.getD s (Int.toNat 0) 0 = s.getD 0 0 := rfl
   rw [e3]
   cases c3 : acB (s.getD 0 0)
   ·rw [aL (by rfl)]; simp
   ·rw [aQ (by rfl)]
    unfold tB
    have := aud s hl s.length 0 fuel (by omega) (by rw [hY]; omega)
    rw [show ((0 : Nat) : Int) = 0 from rfl] at this
    rw [this]; simp
theorem aDe (s : Str) (hl : s.length < 1000000000000000) (c : UInt8) : ∀ (k i fu : Nat), i + k = s.length → k < fu → lB fu s (c.toNat : Int) (i : Int) = some ((s.drop i).contains c) := by
 intro k
 induction k with
 | zero =>
  intro i fu hi hf
  obtain ⟨fu, rfl⟩ : ∃ n, fu = n + 1 := ⟨fu - 1, by omega⟩
  rw [lB, aQ (pT (by omega)), List.drop_eq_nil_of_le (by omega)]; rfl
 | succ k ih =>
  intro i fu hi hf
  obtain ⟨fu, rfl⟩ : ∃ n, fu = n + 1 := ⟨fu - 1, by omega⟩
  have h : i < s.length := by omega
  rw [lB, aL (iV h), aL (inr h), ag4 h, bZ (by omega), ih (i + 1) fu (by omega) (by omega), List.drop_eq_getElem_cons h, List.contains_cons]
  by_cases e : s[i] = c
  ·rw [aL (by simp [e])]; simp [e]
  ·have e2 : ¬ s[i].toNat = c.toNat := fun h => e (UInt8.toNat.inj h)
   rw [aQ (by simp; omega)]
   have e3 : (c == s[i]) = false := by simp; exact fun h => e h.symm
   simp [e3]
theorem aiQ (s : Str) (hl : s.length < 1000000000000000) (c : UInt8) {n : Int} (hn : n = (c.toNat : Int)) : kL s n = some (s.contains c) := by
 subst hn
 have := aDe s hl c s.length 0 fuel (by omega) (by rw [hY]; omega)
 simpa [kL] using this
def sizedB (s : Str) : Bool := decide (1 ≤ s.length) && decide (s.length ≤ 64) && !(s.contains 0) && decide (s.count 47 + 1 ≤ 8)
theorem ayG (s : Str) : ∀ (k i fu c : Nat), s.length - i ≤ k → k < fu → c + k < 1000000000 → lI fu (c : Int) s i = some (!((s.drop i).contains 0) && decide (c + (s.drop i).count 47 ≤ 8)) := by
 intro k
 induction k with
 | zero =>
  intro i fu c hi hf hc
  obtain ⟨fu, rfl⟩ : ∃ n, fu = n + 1 := ⟨fu - 1, by omega⟩
  have ec : decide ((c : Int) ≤ 8) = decide (c ≤ 8) := by rw [decide_eq_decide]; omega
  rw [lI, aQ (by simp; omega), List.drop_eq_nil_of_le (by omega), ec]; simp <;> exact decide_eq_decide.2 Iff.rfl
 | succ k ih =>
  intro i fu c hi hf hc
  obtain ⟨fu, rfl⟩ : ∃ n, fu = n + 1 := ⟨fu - 1, by omega⟩
  by_cases h : i < s.length
  ·rw [lI, aL (by simpa using h)]
   by_cases lo : s[i].toNat < 128
   ·rw [amb h lo, List.drop_eq_getElem_cons h, List.contains_cons, List.count_cons]
    simp only
    by_cases c0 : s[i].toNat = 0
    ·have e : s[i] = 0 := UInt8.toNat.inj (by simpa using c0)
     rw [aL (by simp; omega)]; simp [e]
    ·have e : (0 == s[i]) = false := by simp; intro h; rw [← h] at c0; simp at c0
     rw [aQ (by simp; omega), e, Bool.false_or]
     by_cases c1 : s[i].toNat = 47
     ·have e1 : s[i] = 47 := UInt8.toNat.inj (by simpa using c1)
      rw [aL (by simp; omega), bZ (by omega), ih (i + 1) fu (c + 1) (by omega) (by omega) (by omega)]
      simp only [e1, beq_self_eq_true, if_true]
      rw [show c + 1 + List.count 47 (List.drop (i + 1) s) = c + (List.count 47 (List.drop (i + 1) s) + 1) by omega]
     ·have e1 : (s[i] == 47) = false := by simp; intro h; rw [h] at c1; simp at c1
      rw [aQ (by simp; omega), ih (i + 1) fu c (by omega) (by omega) (by omega)]
      simp [e1]
   ·obtain ⟨t, ht, hh⟩ := al5 h (by omega)
    have hd := ajZ h (by omega)
    rw [aQ (by simp; omega), aQ (by simp; omega), ih (i + (dec s i).2) fu c (by omega) (by omega) (by omega), ht, wR hh (by decide), atP hh (by decide)]
  ·have ec : decide ((c : Int) ≤ 8) = decide (c ≤ 8) := by rw [decide_eq_decide]; omega
   rw [lI, aQ (by simpa using h), List.drop_eq_nil_of_le (by omega), ec]; simp <;> exact decide_eq_decide.2 Iff.rfl
theorem ari (s : Str) : xJ s = some (sizedB s) := by
 unfold xJ sizedB
 by_cases c1 : s.length < 1
 ·rw [aL (by simp; omega)]; simp; omega
 ·rw [aQ (by simp; omega)]
  by_cases c2 : s.length > 64
  ·rw [aL (by simp; omega)]; simp; omega
  ·have e1 : decide (1 ≤ s.length) = true := by simp; omega
   have e2 : decide (s.length ≤ 64) = true := by simp; omega
   rw [aQ (by simp; omega), e1, e2]
   unfold zM
   have := ayG s s.length 0 fuel 1 (by omega) (by rw [hY]; omega) (by omega)
   rw [show ((1 : Nat) : Int) = 1 from rfl] at this
   rw [this]; simp [Nat.add_comm]
def dP : Str → List Str
 | [] => [[]]
 | b :: r => if b = 47 then [] :: dP r else match dP r with | [] => [[b]] | h :: t => (b :: h) :: t
theorem abJ (s : Str) : dP s ≠ [] := by
 cases s with
 | nil => simp [dP]
 | cons b r => simp only [dP]; split <;> (try simp); split <;> simp
theorem acD : ∀ s : Str, (dP s).length = s.count 47 + 1
 | [] => by simp [dP]
 | b :: r => by
  have ih := acD r
  simp only [dP, List.count_cons]
  by_cases h : b = 47
  ·simp [h, ih]
  ·rw [if_neg h]
   have hb : (b == 47) = false := by simpa using h
   cases hr : dP r with
   | nil => exact absurd hr (abJ r)
   | cons x t => rw [hr] at ih; simp [hb] at ih ⊢; omega
def agB (p : Str) : List Str → List Str
 | [] => [p]
 | h :: t => (p ++ h) :: t
theorem at0 (p r : Str) : agB p (dP (47 :: r)) = p :: dP r := by simp [dP, agB]
theorem auU (p r : Str) {b : UInt8} (h : b ≠ 47) : agB p (dP (b :: r)) = agB (p ++ [b]) (dP r) := by
 simp only [dP, if_neg h]
 cases hr : dP r with
 | nil => exact absurd hr (abJ r)
 | cons x t => simp [agB]
theorem ayA (s : Str) {a i : Nat} (h1 : a ≤ i) (h2 : i ≤ s.length) : cH s (some (a : Int)) (some (i : Int)) = (s.take i).drop a := by simp [cH]
theorem axd (s : Str) {a i : Nat} (h1 : a ≤ i) (h2 : i < s.length) : (s.take i).drop a ++ [s[i]] = (s.take (i + 1)).drop a := by
 rw [← avG h2, List.drop_append_of_le_length (by simp; omega)]
theorem aqe (s : Str) (hl : s.length < 1000000) : ∀ (k i fu a : Nat) (acc : List Str), i + k = s.length → k < fu → a ≤ i → acc.length ≤ i →
  iC fu s (a : Int) (i : Int) acc = some (acc ++ agB ((s.take i).drop a) (dP (s.drop i))) := by
 intro k
 induction k with
 | zero =>
  intro i fu a acc hi hf ha hacc
  obtain ⟨fu, rfl⟩ : ∃ n, fu = n + 1 := ⟨fu - 1, by omega⟩
  have e : cH s (some (a : Int)) none = (s.take i).drop a := by simp [cH, List.take_of_length_le (show s.length ≤ i by omega)]
  rw [iC, aQ (pT (by omega)), aL (by simp; omega), e, aL (by simp; omega), drop_nil s i (by omega)]
  simp [dP, agB]
 | succ k ih =>
  intro i fu a acc hi hf ha hacc
  obtain ⟨fu, rfl⟩ : ∃ n, fu = n + 1 := ⟨fu - 1, by omega⟩
  have h : i < s.length := by omega
  rw [iC, aL (iV h), aL (inr h), ag4 h, bZ (by omega), List.drop_eq_getElem_cons (l := s) h]
  by_cases c : s[i].toNat = 47
  ·have e : s[i] = 47 := UInt8.toNat.inj (by simpa using c)
   rw [aL (by simp; omega), aL (by simp; omega), aL (by simp; omega), ayA s ha (by omega), aL (by simp; omega), ih (i + 1) fu (i + 1) _ (by omega) (by omega) (by omega) (by simp; omega), e, at0]
   rw [drop_nil (s.take (i + 1)) _ (by simp; omega)]
   cases hr : dP (s.drop (i + 1)) with
   | nil => exact absurd hr (abJ _)
   | cons x t => simp [agB]
  ·have e : s[i] ≠ 47 := fun h => c (by rw [h]; rfl)
   rw [aQ (by simp; omega), ih (i + 1) fu a acc (by omega) (by omega) (by omega) (by omega), auU _ _ e, axd s ha h]
theorem ain (s : Str) (hl : s.length < 1000000) : p7 s = some (dP s) := by
 have := aqe s hl s.length 0 fuel 0 [] (by omega) (by rw [hY]; omega) (by omega) (by simp)
 have e : agB [] (dP s) = dP s := by
  cases hr : dP s with
  | nil => exact absurd hr (abJ _)
  | cons x t => simp [agB]
 simp only [List.drop_zero, List.take_zero, List.drop_nil, List.nil_append, e] at this
 exact this
theorem aj3 (s : Str) : oG s = some (sizedB s) := by
 unfold oG sizedB
 by_cases c1 : s.length < 1
 ·rw [aQ (by simp; omega)]; simp; omega
 ·rw [aL (by simp; omega)]
  by_cases c2 : s.length > 64
  ·rw [aQ (by simp; omega)]; simp; omega
  ·have e1 : decide (1 ≤ s.length) = true := by simp; omega
   have e2 : decide (s.length ≤ 64) = true := by simp; omega
   rw [aL (by simp; omega), dH (aiQ s (by omega) 0 (n := 0) rfl), e1, e2, Bool.true_and, Bool.true_and]
   cases s.contains 0
   ·rw [aL (by rfl), dH (ain s (by omega)), acD]
    simp; omega
   ·rw [aQ (by rfl)]; rfl
def yI (s : Str) : Bool := sizedB s && !(s.contains 43) && !(s.contains 35)
theorem ayQ (s : Str) : ∀ (k i fu : Nat), s.length - i ≤ k → k < fu → mV fu s i = some (!((s.drop i).contains 43) && !((s.drop i).contains 35)) := by
 intro k
 induction k with
 | zero =>
  intro i fu hi hf
  obtain ⟨fu, rfl⟩ : ∃ n, fu = n + 1 := ⟨fu - 1, by omega⟩
  rw [mV, aQ (by simp; omega), List.drop_eq_nil_of_le (by omega)]; rfl
 | succ k ih =>
  intro i fu hi hf
  obtain ⟨fu, rfl⟩ : ∃ n, fu = n + 1 := ⟨fu - 1, by omega⟩
  by_cases h : i < s.length
  ·rw [mV, aL (by simpa using h)]
   by_cases lo : s[i].toNat < 128
   ·rw [amb h lo, List.drop_eq_getElem_cons h, List.contains_cons, List.contains_cons]
    simp only
    by_cases c0 : s[i].toNat = 43
    ·have e : s[i] = 43 := UInt8.toNat.inj (by simpa using c0)
     rw [aL (by simp; omega)]; simp [e]
    ·have e : (43 == s[i]) = false := by simp; intro h; rw [← h] at c0; simp at c0
     rw [aQ (by simp; omega), e, Bool.false_or]
     by_cases c1 : s[i].toNat = 35
     ·have e1 : s[i] = 35 := UInt8.toNat.inj (by simpa using c1)
      rw [aL (by simp; omega)]; simp [e1]
     ·have e1 : (35 == s[i]) = false := by simp; intro h; rw [← h] at c1; simp at c1
      rw [aQ (by simp; omega), ih (i + 1) fu (by omega) (by omega), e1, Bool.false_or]
   ·obtain ⟨t, ht, hh⟩ := al5 h (by omega)
    have hd := ajZ h (by omega)
    rw [aQ (by simp; omega), aQ (by simp; omega), ih (i + (dec s i).2) fu (by omega) (by omega), ht, wR hh (by decide), wR hh (by decide)]
  ·rw [mV, aQ (by simpa using h), List.drop_eq_nil_of_le (by omega)]; rfl
theorem adP {s : Str} (h : sizedB s = true) : 1 ≤ s.length ∧ s.length ≤ 64 := by
 simp only [sizedB, Bool.and_eq_true, decide_eq_true_eq] at h
 exact ⟨h.1.1.1, h.1.1.2⟩
theorem aqQ (s : Str) : aak s = some (yI s) := by
 unfold aak yI
 rw [dH (ari s)]
 cases h : sizedB s
 ·rw [aL (by rfl)]; rfl
 ·have := adP h
  rw [aQ (by rfl), ayQ s s.length 0 fuel (by omega) (by rw [hY]; omega)]
  simp
theorem ai1 (s : Str) : rG s = some (yI s) := by
 unfold rG yI
 rw [dH (aj3 s)]
 cases h : sizedB s
 ·rw [aQ (by rfl)]; rfl
 ·have := adP h
  rw [aL (by rfl), dH (aiQ s (by omega) 43 (n := 43) rfl)]
  cases s.contains 43
  ·rw [aL (by rfl), dH (aiQ s (by omega) 35 (n := 35) rfl)]; rfl
  ·rw [aQ (by rfl)]; rfl
end Md
end PX
set_option linter.unusedVariables false
set_option linter.unusedSimpArgs false
namespace PX
open Go
namespace Md
theorem aey (c : UInt8) : ∀ l : Str, (Lib.indexByte l c = -1 ∧ l.count c = 0) ∨ ∃ m : Nat, Lib.indexByte l c = m ∧ m < l.length ∧ l = l.take m ++ c :: l.drop (m + 1) ∧ (l.take m).count c = 0
 | [] => .inl (by simp [Lib.indexByte])
 | b :: l => by
  rw [Lib.indexByte]
  by_cases h : b = c
  ·subst h
   exact .inr ⟨0, by simp, by simp, by simp, by simp⟩
  ·have hb : (b == c) = false := by simpa using h
   rw [hb]
   simp only [Bool.false_eq_true, if_false]
   rcases aey c l with ⟨h1, h2⟩ | ⟨m, h1, h2, h3, h4⟩
   ·left
    rw [h1]
    exact ⟨by simp, by rw [List.count_cons, hb, h2]; simp⟩
   ·right
    have : ((m : Int) == -1) = false := by simp <;> omega
    refine ⟨m + 1, by rw [h1, this]; simp, by simp; omega, ?_, by rw [List.take_succ_cons, List.count_cons, hb, h4]; simp⟩
    simp only [List.take_succ_cons, List.drop_succ_cons, List.cons_append]
    rw [← h3]
theorem alg : ∀ {l : Str}, l.count 47 = 0 → dP l = [l]
 | [], _ => rfl
 | b :: l, h => by
  rw [List.count_cons] at h
  have h1 : l.count 47 = 0 := by omega
  have h2 : b ≠ 47 := by rintro rfl; simp at h
  simp only [dP, if_neg h2, alg h1]
theorem ak4 : ∀ {p r : Str}, p.count 47 = 0 → dP (p ++ 47 :: r) = p :: dP r
 | [], r, _ => by simp [dP]
 | b :: p, r, h => by
  rw [List.count_cons] at h
  have h1 : p.count 47 = 0 := by omega
  have h2 : b ≠ 47 := by rintro rfl; simp at h
  simp only [List.cons_append, dP, if_neg h2, ak4 h1]
theorem avd (s : Str) (hs : s ≠ [47]) : oO s ([47] : Str) = some (Lib.indexByte s 47) := by
 unfold oO lY
 have : (([47] : Str) == s) = false := by simp; exact fun h => hs h.symm
 rw [aQ (by rfl), aQ this, aL (by rfl), aL (by rfl)]
 rfl
theorem alf (s : Str) : oO s ([47] : Str) = some (Lib.indexByte s 47) := by
 by_cases h : s = [47]
 ·subst h; rfl
 ·exact avd s h
theorem ayX (N : Nat) (hN : N < 100000) : ∀ (k i fu : Nat) (s : Str) (acc : List Str), i + k = N → k < fu → s.count 47 = k → s.length < 1000000 → acc.length = i →
  jV fu s ([47] : Str) 0 (N : Int) (i : Int) (acc ++ List.replicate (k + 1) default) = some (acc ++ dP s) := by
 intro k
 induction k with
 | zero =>
  intro i fu s acc hi hf hc hs ha
  obtain ⟨fu, rfl⟩ : ∃ n, fu = n + 1 := ⟨fu - 1, by omega⟩
  rw [jV, aQ (pT (by omega))]
  unfold nI
  have e : (acc ++ List.replicate (0 + 1) (default : Str)).set i s = acc ++ [s] := by
   rw [List.set_append_right _ _ (by omega)]; simp [ha]
  rw [Int.toNat_natCast, e, aL (by simp; omega), bZ (by omega), aL (by simp; omega), alg hc, Int.toNat_natCast]
  rw [Nat.sub_zero, List.drop_zero, List.take_of_length_le (by simp; omega)]
 | succ k ih =>
  intro i fu s acc hi hf hc hs ha
  obtain ⟨fu, rfl⟩ : ∃ n, fu = n + 1 := ⟨fu - 1, by omega⟩
  rw [jV, aL (iV (by omega)), dH (alf s)]
  rcases aey 47 s with ⟨h1, h2⟩ | ⟨m, h1, h2, h3, h4⟩
  ·omega
  ·have e1 : IntKind.wrap .i64 ((m : Int) + 0) = (m : Int) := by rw [w64 (by omega) (by omega)]; omega
   have e2 : IntKind.wrap .i64 ((m : Int) + (List.length ([47] : Str) : Int)) = ((m + 1 : Nat) : Int) := bZ (by omega)
   have e3 : cH s none (some (m : Int)) = s.take m := by simp [cH]
   have e4 : cH s (some ((m + 1 : Nat) : Int)) none = s.drop (m + 1) := by simp [cH]
   have hcount : (s.drop (m + 1)).count 47 = k := by
    have := congrArg (List.count 47) h3
    rw [List.count_append, h4, List.count_cons_self, hc] at this
    omega
   have hset : (acc ++ List.replicate (k + 1 + 1) (default : Str)).set i (s.take m) = (acc ++ [s.take m]) ++ List.replicate (k + 1) default := by
    rw [List.set_append_right _ _ (by omega), List.replicate_succ]; simp [ha]
   rw [h1, aQ (by simp <;> omega), e1, e2, e3, e4, aL (by simp; omega), aL (by simp; omega), aL (by simp; omega), bZ (by omega), Int.toNat_natCast, hset,
    ih (i + 1) fu (s.drop (m + 1)) (acc ++ [s.take m]) (by omega) (by omega) hcount (by simp; omega) (by simp; omega)]
   have : dP s = s.take m :: dP (s.drop (m + 1)) := by
    conv => lhs; rw [h3]
    exact ak4 h4
   rw [this]; simp
theorem avN (s : Str) (hs : s.length < 100000) : yS s = some (dP s) := by
 have hc : s.count 47 ≤ s.length := List.count_le_length
 have hsplit : w7 s ([47] : Str) = some (dP s) := by
  unfold w7 wK
  have h1 : wU s ([47] : Str) = some ((s.count 47 : Nat) : Int) := by
   unfold wU
   rw [aQ (by rfl), aL (by rfl), aL (by rfl)]
   rfl
  rw [aQ (by rfl), aQ (by rfl), aL (by rfl), dH h1]
  unfold oU
  have e1 : IntKind.wrap .i64 (((s.count 47 : Nat) : Int) + 1) = ((s.count 47 + 1 : Nat) : Int) := bZ (by omega)
  have e2 : IntKind.wrap .i64 ((s.length : Int) + 1) = ((s.length + 1 : Nat) : Int) := bZ (by omega)
  rw [e1, e2]
  have e3 : (if ((s.length + 1 : Nat) : Int) < ((s.count 47 + 1 : Nat) : Int) then ((s.length + 1 : Nat) : Int) else ((s.count 47 + 1 : Nat) : Int)) = ((s.count 47 + 1 : Nat) : Int) := by rw [if_neg (by omega)]
  have e4 : IntKind.wrap .i64 (((s.count 47 + 1 : Nat) : Int) - 1) = ((s.count 47 : Nat) : Int) := by rw [w64 (by omega) (by omega)]; omega
  simp only [e3]
  rw [aL (by simp; omega), e4, Int.toNat_natCast]
  have := ayX (s.count 47) (by omega) (s.count 47) 0 fuel s [] (by omega) (by rw [hY]; omega) rfl (by omega) rfl
  simp only [List.nil_append] at this
  rw [show ((0 : Nat) : Int) = 0 from rfl] at this
  rw [this]; rfl
 unfold yS
 rw [dH hsplit]
def ajI (l : Str) (one last : Bool) : Bool := (l.contains 43 && !one) || (l.contains 35 && (!one || !last))
def aea : List Str → Bool
 | [] => true
 | lv :: r => !(ajI lv (decide (lv.length = 1)) r.isEmpty) && aea r
def qG (s : Str) : Bool := sizedB s && aea (dP s)
theorem ayU (k6 : (List Str) → Bool → (List Str) → Int → Int → Option Bool) (x3 x15 : List Str) (x4 : Bool) (x16 : Int) (lv : Str) (i : Nat) (hi : i < x3.length) (hx : x3.length < 1000000) :
  ∀ (k j fu : Nat), lv.length - j ≤ k → k < fu → iR fu k6 x3 x4 (i : Int) lv x15 x16 (i : Int) lv j =
   if ajI (lv.drop j) (decide (lv.length = 1)) (decide (i + 1 = x3.length)) = true then some false else k6 x3 x4 x15 x16 ((i + 1 : Nat) : Int) := by
 intro k
 have hw : IntKind.wrap .i64 ((x3.length : Int) - 1) = ((x3.length - 1 : Nat) : Int) := by rw [w64 (by omega) (by omega)]; omega
 induction k with
 | zero =>
  intro j fu hj hf
  obtain ⟨fu, rfl⟩ : ∃ n, fu = n + 1 := ⟨fu - 1, by omega⟩
  rw [iR, aQ (by simp; omega), List.drop_eq_nil_of_le (by omega), bZ (by omega)]; simp [ajI]
 | succ k ih =>
  intro j fu hj hf
  obtain ⟨fu, rfl⟩ : ∃ n, fu = n + 1 := ⟨fu - 1, by omega⟩
  by_cases h : j < lv.length
  ·rw [iR, aL (by simpa using h), hw]
   by_cases lo : lv[j].toNat < 128
   ·rw [amb h lo]
    simp only
    rw [ih (j + 1) fu (by omega) (by omega), List.drop_eq_getElem_cons h]
    have ev : (!((lv.length : Int) == 1)) = !(decide (lv.length = 1)) := by rw [Bool.eq_iff_iff]; simp; omega
    have el : decide ((i : Int) < ((x3.length - 1 : Nat) : Int)) = !(decide (i + 1 = x3.length)) := by rw [Bool.eq_iff_iff]; simp; omega
    rw [ev, el]
    unfold ajI
    rw [List.contains_cons, List.contains_cons]
    by_cases c0 : lv[j].toNat = 43
    ·have e : lv[j] = 43 := UInt8.toNat.inj (by simpa using c0)
     rw [aL (by simp; omega), e]
     cases hd1 : decide (lv.length = 1)
     ·rw [aL (by rfl)]; simp
     ·rw [aQ (by rfl), aQ (by decide)]; simp
    ·have e : (43 == lv[j]) = false := by simp; intro h; rw [← h] at c0; simp at c0
     rw [aQ (by simp; omega), e, Bool.false_or]
     by_cases c1 : lv[j].toNat = 35
     ·have e1 : lv[j] = 35 := UInt8.toNat.inj (by simpa using c1)
      rw [aL (by simp; omega), e1]
      cases decide (lv.length = 1) <;> cases decide (i + 1 = x3.length) <;> simp
     ·have e1 : (35 == lv[j]) = false := by simp; intro h; rw [← h] at c1; simp at c1
      rw [aQ (by simp; omega), e1, Bool.false_or]
   ·obtain ⟨t, ht, hh⟩ := al5 h (by omega)
    have hd := ajZ h (by omega)
    rw [aQ (by simp; omega), aQ (by simp; omega), ih (j + (dec lv j).2) fu (by omega) (by omega), ht]
    unfold ajI
    rw [wR hh (by decide), wR hh (by decide)]
  ·rw [iR, aQ (by simpa using h), List.drop_eq_nil_of_le (by omega), bZ (by omega)]; simp [ajI]
theorem awt (l : List Str) (hl : l.length < 1000000) (hlv : ∀ x ∈ l, x.length < 1000000) : ∀ (k i fu : Nat), i + k = l.length → k < fu → oC fu l true l (l.length : Int) (i : Int) = some (aea (l.drop i)) := by
 intro k
 induction k with
 | zero =>
  intro i fu hi hf
  obtain ⟨fu, rfl⟩ : ∃ n, fu = n + 1 := ⟨fu - 1, by omega⟩
  rw [oC, aQ (pT (by omega)), List.drop_eq_nil_of_le (by omega)]; rfl
 | succ k ih =>
  intro i fu hi hf
  obtain ⟨fu, rfl⟩ : ∃ n, fu = n + 1 := ⟨fu - 1, by omega⟩
  have h : i < l.length := by omega
  have hx := hlv _ (List.getElem_mem h)
  rw [oC, aL (iV h), aL (inr h), cR h, ayU _ l l true _ l[i] i h hl l[i].length 0 fuel (by omega) (by rw [hY]; omega), List.drop_zero, List.drop_eq_getElem_cons h, aea]
  have el : decide (i + 1 = l.length) = (l.drop (i + 1)).isEmpty := by rw [Bool.eq_iff_iff]; simp; omega
  rw [el]
  cases ajI l[i] (decide (l[i].length = 1)) (l.drop (i + 1)).isEmpty
  ·simp only [Bool.false_eq_true, if_false]
   rw [ih (i + 1) fu (by omega) (by omega)]; simp
  ·simp
theorem ahL : ∀ (s : Str), ∀ x ∈ dP s, x.length ≤ s.length
 | [], x, hx => by simp [dP] at hx; subst hx; simp
 | b :: r, x, hx => by
  have ih := ahL r
  simp only [dP] at hx
  split at hx
  ·rcases List.mem_cons.1 hx with rfl | hx
   ·simp
   ·have := ih x hx; simp; omega
  ·cases hr : dP r with
   | nil => exact absurd hr (abJ r)
   | cons y t =>
    rw [hr] at hx ih
    rcases List.mem_cons.1 hx with rfl | hx
    ·have := ih y List.mem_cons_self; simp; omega
    ·have := ih x (List.mem_cons_of_mem _ hx); simp; omega
theorem filter_eq (s : Str) : vC s = some (qG s) := by
 unfold vC qG
 rw [dH (ari s)]
 cases h : sizedB s
 ·rw [aL (by rfl)]; rfl
 ·have hl := adP h
  have hc : s.count 47 ≤ s.length := List.count_le_length
  have hn := acD s
  rw [aQ (by rfl), dH (avN s (by omega))]
  have := awt (dP s) (by omega) (fun x hx => by have := ahL s x hx; omega) (dP s).length 0 fuel (by omega) (by rw [hY]; omega)
  rw [show ((0 : Nat) : Int) = 0 from rfl] at this
  rw [this]; simp
theorem auI {l : Str} {c : UInt8} (h : l.contains c = true) : decide (l.length = 1) = (l == [c]) := by
 rw [Bool.eq_iff_iff]
 simp only [decide_eq_true_eq, beq_iff_eq]
 constructor
 ·intro h1
  match l, h1, h with
  | [x], _, h => simp at h; simp [h]
 ·rintro rfl; rfl
theorem atT (k5 : Int → (List Str) → Option Bool) (l : List Str) (hl : l.length < 1000000) (i : Nat) (h : i < l.length) (hx : l[i].length < 1000000) :
  kR k5 (i : Int) l = if (l[i].contains 35 && (!(decide (l[i].length = 1)) || !((l.drop (i + 1)).isEmpty))) = true then some false else k5 ((i + 1 : Nat) : Int) l := by
 have hw : IntKind.wrap .i64 ((l.length : Int) - 1) = ((l.length - 1 : Nat) : Int) := by rw [w64 (by omega) (by omega)]; omega
 unfold kR
 rw [aL (inr h), cR h, dH (aiQ l[i] (by omega) 35 (n := 35) rfl), bZ (by omega)]
 cases h1 : l[i].contains 35
 ·rw [aQ (by rfl)]; simp
 ·rw [aL (by rfl), aL (inr h), ← auI h1, hw]
  have el : ((i : Int) != ((l.length - 1 : Nat) : Int)) = !((l.drop (i + 1)).isEmpty) := by rw [Bool.eq_iff_iff]; simp; omega
  rw [el]
  cases decide (l[i].length = 1) <;> cases (l.drop (i + 1)).isEmpty <;> simp
theorem atc (l : List Str) (hl : l.length < 1000000) (hlv : ∀ x ∈ l, x.length < 1000000) : ∀ (k i fu : Nat), i + k = l.length → k < fu → iF fu (i : Int) l = some (aea (l.drop i)) := by
 intro k
 induction k with
 | zero =>
  intro i fu hi hf
  obtain ⟨fu, rfl⟩ : ∃ n, fu = n + 1 := ⟨fu - 1, by omega⟩
  rw [iF, aQ (pT (by omega)), List.drop_eq_nil_of_le (by omega)]; rfl
 | succ k ih =>
  intro i fu hi hf
  obtain ⟨fu, rfl⟩ : ∃ n, fu = n + 1 := ⟨fu - 1, by omega⟩
  have h : i < l.length := by omega
  have hx := hlv _ (List.getElem_mem h)
  rw [iF, aL (iV h), aL (inr h), cR h, dH (aiQ l[i] (by omega) 43 (n := 43) rfl), atT _ l hl i h hx, ih (i + 1) fu (by omega) (by omega), List.drop_eq_getElem_cons h, aea]
  unfold ajI
  cases h1 : l[i].contains 43
  ·rw [aQ (by rfl)]
   simp only [Bool.false_and, Bool.false_or]
   cases (l[i].contains 35 && (!(decide (l[i].length = 1)) || !((l.drop (i + 1)).isEmpty))) <;> simp
  ·rw [aL (by rfl), aL (inr h), ← auI h1]
   cases h2 : decide (l[i].length = 1)
   ·rw [aL (by rfl)]; simp
   ·rw [aQ (by rfl)]
    cases (l[i].contains 35) <;> cases ((l.drop (i + 1)).isEmpty) <;> simp
theorem ais (s : Str) : nB s = some (qG s) := by
 unfold nB qG
 rw [dH (aj3 s)]
 cases h : sizedB s
 ·rw [aL (by rfl)]; rfl
 ·have hl := adP h
  have hc : s.count 47 ≤ s.length := List.count_le_length
  have hn := acD s
  rw [aQ (by rfl), dH (ain s (by omega))]
  have := atc (dP s) (by omega) (fun x hx => by have := ahL s x hx; omega) (dP s).length 0 fuel (by omega) (by rw [hY]; omega)
  rw [show ((0 : Nat) : Int) = 0 from rfl] at this
  rw [this]; simp
abbrev aar : Str := [36, 115, 104, 97, 114, 101, 47]
def o9 (s p : Str) : Bool := decide (p.length ≤ s.length) && (s.take p.length == p)
theorem ae1 (s p : Str) : kO s p = some (o9 s p) := by
 unfold kO o9
 by_cases h : p.length ≤ s.length
 ·rw [aL (by simp; omega), aL (by simp; omega)]; simp [cH, h]
 ·rw [aQ (by simp; omega)]; simp [h]
theorem ajs (s p : Str) : m9 s p = some (o9 s p) := ae1 s p
theorem aiB (s p : Str) : oF s p = some (o9 s p) := by
 unfold oF; rw [dH (ae1 s p)]
theorem arf (s p : Str) : rE s p = some (if o9 s p = true then (s.drop p.length, true) else (s, false)) := by
 unfold rE qC
 rw [dH (ae1 s p)]
 cases h : o9 s p
 ·rw [aL (by rfl)]; rfl
 ·have hl : p.length ≤ s.length := by simp only [o9, Bool.and_eq_true, decide_eq_true_eq] at h; exact h.1
  rw [aQ (by rfl), aL (by simp; omega)]; simp [cH]
theorem aCL (s : Str) (hs : s.length < 1000000000000000) : aat s ([47] : Str) = some (if Lib.indexByte s 47 = -1 then (s, [], false) else (s.take (Lib.indexByte s 47).toNat, s.drop ((Lib.indexByte s 47).toNat + 1), true)) := by
 have hi : lY s ([47] : Str) = some (Lib.indexByte s 47) := by
  have := alf s
  unfold oO at this
  cases h : lY s ([47] : Str) with
  | none => rw [h] at this; cases this
  | some v => rw [h] at this; exact this
 unfold aat xY
 rw [dH hi]
 rcases aey 47 s with ⟨h1, h2⟩ | ⟨m, h1, h2, h3, h4⟩
 ·rw [h1, aQ (by rfl)]; rfl
 ·have e2 : IntKind.wrap .i64 ((m : Int) + (List.length ([47] : Str) : Int)) = ((m + 1 : Nat) : Int) := bZ (by omega)
  rw [h1, aL (by simp), aL (by simp; omega), e2, aL (by simp; omega), if_neg (by omega)]
  simp [cH]
def tL (s : Str) : Option (Str × Str) :=
 if o9 s aar = true then
  (if Lib.indexByte (s.drop 7) 47 = -1 then none
  else if (nC ((s.drop 7).take (Lib.indexByte (s.drop 7) 47).toNat) && qG ((s.drop 7).drop ((Lib.indexByte (s.drop 7) 47).toNat + 1)) && !(o9 ((s.drop 7).drop ((Lib.indexByte (s.drop 7) 47).toNat + 1)) aar)) = true then
   some ((s.drop 7).take (Lib.indexByte (s.drop 7) 47).toNat, (s.drop 7).drop ((Lib.indexByte (s.drop 7) 47).toNat + 1)) else none)
 else none
def vQ (o : Option (Str × Str)) : Str × Str × Bool := match o with | some (g, f) => (g, f, true) | none => ([], [], false)
theorem avz (s : Str) (hs : s.length < 1000000000000000) : yV s = some (vQ (tL s)) := by
 unfold yV tL
 rw [dH (arf s aar)]
 cases h : o9 s aar
 ·rw [aL (by rfl)]; rfl
 ·simp only [if_true]
  have e7 : s.drop aar.length = s.drop 7 := rfl
  rw [aQ (by rfl), e7, dH (aCL (s.drop 7) (by simp; omega))]
  by_cases h1 : Lib.indexByte (s.drop 7) 47 = -1
  ·rw [if_pos h1, if_pos h1, aL (by rfl)]; rfl
  ·rw [if_neg h1, if_neg h1, aQ (by rfl)]
   rw [dH (ag8 _ (by simp; omega))]
   cases nC ((s.drop 7).take (Lib.indexByte (s.drop 7) 47).toNat)
   ·rw [aL (by rfl)]; simp [vQ]
   ·rw [aQ (by rfl), dH (filter_eq _)]
    cases qG ((s.drop 7).drop ((Lib.indexByte (s.drop 7) 47).toNat + 1))
    ·rw [aL (by rfl)]; simp [vQ]
    ·rw [aQ (by rfl), dH (aiB _ _)]
     cases o9 ((s.drop 7).drop ((Lib.indexByte (s.drop 7) 47).toNat + 1)) aar
     ·rw [aQ (by rfl)]; simp [vQ]
     ·rw [aL (by rfl)]; simp [vQ]
def ag3 (s : Str) : Nat := if Lib.indexByte s 47 = -1 then s.length else (Lib.indexByte s 47).toNat
theorem aq5 (s : Str) (hs : s.length < 1000000000000000) : ∀ (k i fu : Nat), i + k = s.length → k < fu → jK fu s (i : Int) = kQ s ((i + ag3 (s.drop i) : Nat) : Int) := by
 intro k
 induction k with
 | zero =>
  intro i fu hi hf
  obtain ⟨fu, rfl⟩ : ∃ n, fu = n + 1 := ⟨fu - 1, by omega⟩
  rw [jK, aQ (pT (by omega)), List.drop_eq_nil_of_le (by omega)]; simp [ag3, Lib.indexByte]
 | succ k ih =>
  intro i fu hi hf
  obtain ⟨fu, rfl⟩ : ∃ n, fu = n + 1 := ⟨fu - 1, by omega⟩
  have h : i < s.length := by omega
  rw [jK, aL (iV h), aL (inr h), ag4 h, List.drop_eq_getElem_cons h]
  by_cases c : s[i].toNat = 47
  ·have e : s[i] = 47 := UInt8.toNat.inj (by simpa using c)
   rw [aQ (by simp; omega), e]; simp [ag3, Lib.indexByte]
  ·have e : (s[i] == 47) = false := by simp; intro h; rw [h] at c; simp at c
   rw [aL (by simp; omega), bZ (by omega), ih (i + 1) fu (by omega) (by omega)]
   congr 2
   unfold ag3
   rw [Lib.indexByte, e]
   simp only [Bool.false_eq_true, if_false]
   rcases aey 47 (s.drop (i + 1)) with ⟨h1, h2⟩ | ⟨m, h1, h2, h3, h4⟩
   ·rw [h1]; simp <;> omega
   ·have h5 : ((m : Int) == -1) = false := by simp
    rw [h1, h5]; simp only [Bool.false_eq_true, if_false]; rw [if_neg (by omega), if_neg (by omega)]; omega
theorem aiv (s : Str) (hs : s.length < 1000000000000000) : m8 s = some (vQ (tL s)) := by
 unfold m8 tL
 rw [dH (ajs s aar)]
 cases h : o9 s aar
 ·rw [aL (by rfl)]; rfl
 ·have hl : 7 ≤ s.length := by simp only [o9, Bool.and_eq_true, decide_eq_true_eq] at h; exact h.1
  have e7 : cH s (some 7) none = s.drop 7 := rfl
  simp only [if_true]
  rw [aQ (by rfl), aL (by simp; omega), e7]
  have hj := aq5 (s.drop 7) (by simp; omega) (s.drop 7).length 0 fuel (by omega) (by rw [hY]; simp; omega)
  rw [show ((0 : Nat) : Int) = 0 from rfl, List.drop_zero, Nat.zero_add] at hj
  rw [hj]
  unfold kQ ag3
  rcases aey 47 (s.drop 7) with ⟨h1, h2⟩ | ⟨m, h1, h2, h3, h4⟩
  ·rw [h1, if_pos rfl, if_pos rfl, aL (by simp)]; rfl
  ·have e1 : cH (s.drop 7) none (some (m : Int)) = (s.drop 7).take m := by simp [cH]
   have e2 : cH (s.drop 7) (some ((m + 1 : Nat) : Int)) none = (s.drop 7).drop (m + 1) := by simp only [cH, Int.toNat_natCast]
   have hlt : m < s.length - 7 := by simpa using h2
   rw [h1, if_neg (by omega), if_neg (by omega), Int.toNat_natCast, aQ (by simp; omega), aL (by simp; omega), e1, dH (aaq _ (by simp; omega))]
   cases nC ((s.drop 7).take m)
   ·rw [aL (by rfl)]; simp [vQ]
   ·rw [aQ (by rfl), bZ (by omega), aL (by simp; omega), e2, dH (ais _)]
    cases qG ((s.drop 7).drop (m + 1))
    ·rw [aL (by rfl)]; simp [vQ]
    ·rw [aQ (by rfl), aL (by simp; omega), dH (ajs _ _)]
     cases o9 ((s.drop 7).drop (m + 1)) aar
     ·rw [aQ (by rfl)]
      unfold qI
      rw [aL (by simp; omega), bZ (by omega), aL (by simp; omega), e1, e2]
      simp [vQ]
     ·rw [aL (by rfl)]; simp [vQ]
def mT (s : Str) : Bool := (tL s).isSome || qG s && !(o9 s aar)
theorem ahP (o : Option (Str × Str)) : (vQ o).2.2 = o.isSome := by cases o <;> rfl
theorem air (s : Str) (hs : s.length < 1000000000000000) : mZ s = some (mT s) := by
 unfold mZ mT
 rw [dH (aiv s hs), ahP]
 cases (tL s).isSome
 ·rw [aQ (by rfl), dH (ais s)]
  cases qG s
  ·rw [aQ (by rfl)]; rfl
  ·rw [aL (by rfl), dH (ajs _ _)]; rfl
 ·rw [aL (by rfl)]; rfl
end Md
end PX
set_option linter.unusedVariables false
set_option linter.unusedSimpArgs false
namespace PX
open Go
namespace Md
theorem arl (x y : aB) : (x.Key == y.Key && (x.Value == y.Value && true)) = decide (x = y) := by
 cases x; cases y; rw [Bool.eq_iff_iff]; simp
theorem aa2 {α : Type} {a b : List α} (h : a.length = b.length) : ((a.length : Int) == (b.length : Int)) = true := by rw [h]; simp
theorem aaV {α : Type} {a b : List α} (h : ¬ a.length = b.length) : ((a.length : Int) == (b.length : Int)) = false := by simp; omega
theorem abx (a b : aF) (ha : a.Props.length < 1000000000000000) : p9 a b = some (decide (a = b)) := by
 have hj : a.Props.length = b.Props.length → yC a b = some (decide (a.Props = b.Props)) := by
  intro hl
  exact vT (F := fun fu i => nV fu a.Props (a.Props.length : Int) i b) hl
   (fun fu => by rw [nV, aQ (pT (by omega))])
   (fun fu i h h' => by rw [nV, aL (iV h), aL (inr h), aL (inr h'), cR h, cR h', bZ (by omega), fU, arl]) (by omega)
 unfold p9
 obtain ⟨a1, a2, a3, a4, a5, a6, a7, a8, a9⟩ := a
 obtain ⟨b1, b2, b3, b4, b5, b6, b7, b8, b9⟩ := b
 simp only at hj ha ⊢
 simp only [aF.mk.injEq]
 by_cases hl : a9.length = b9.length
 ·rw [hj hl]
  simp only [fU, fE, aa2 hl, gV, aby, aim]
 ·simp only [fU, fE, aaV hl, iZ, aby, ayL]
  symm
  simp; rintro - - - - - - - - rfl; exact hl rfl
theorem ap3 (a b : List aB) (ha : a.length < 1000000000000000) : mU a b = some (decide (a = b)) := by
 unfold mU
 by_cases hl : a.length = b.length
 ·rw [fE, aL (aa2 hl)]
  exact vT (F := fun fu i => gW fu a b i) hl
   (fun fu => by rw [gW, aQ (pT (by omega))])
   (fun fu i h h' => by rw [gW, aL (iV h), aL (inr h), aL (inr h'), cR h, cR h', bZ (by omega), fU, arl]) (by omega)
 ·rw [fE, aQ (aaV hl)]
  symm; simp; rintro rfl; exact hl rfl
theorem agu (a b : aF) (ha : a.Props.length < 1000000000000000) : mP a b = some (decide (a = b)) := by
 unfold mP
 obtain ⟨a1, a2, a3, a4, a5, a6, a7, a8, a9⟩ := a
 obtain ⟨b1, b2, b3, b4, b5, b6, b7, b8, b9⟩ := b
 simp only at ha ⊢
 simp only [aF.mk.injEq, ap3 a9 b9 ha, nY, aby, aim]
def aeF (s : Str) : Bool := rngB 1 16 s.length && s.all uD
theorem aoO (b : UInt8) : uD b = decide ((97 ≤ b.toNat ∧ b.toNat ≤ 122) ∨ (48 ≤ b.toNat ∧ b.toNat ≤ 57) ∨ b.toNat = 45) := by
 rw [Bool.eq_iff_iff]; simp only [uD, acB, ai6, Bool.or_eq_true, Bool.and_eq_true, decide_eq_true_eq, or_assoc]
theorem an6 (s : Str) : aay s = some (aeF s) := by
 unfold aay aeF
 simp only [wD]
 simp only [fU, acY, afV, gV, iZ, fE, adX, afy, tV, aU, y9, nY, abe, abP, afQ, wD, afE, afC, wG]
 cases hr : rngB 1 16 s.length
 ·rfl
 ·rw [nS] at hr
  rw [gV, gV]
  unfold zT
  refine sD (F := fun fu i => gQ fu s i) (g := fun r => some (r.all uD)) (fun fu => by rw [gQ, aQ (pT (by omega))]; rfl) (fun fu i h ih => ?_) (by omega)
  rw [gQ, aL (iV h), aL (inr h), ag4 h, bZ (by omega), ih, List.all_cons, wD, aoO]
  simp only [fU, acY, afV, gV, iZ, fE, adX, afy, tV, aU, y9, nY, abe, abP, afQ, wD, afE, afC, aby]
  simp only [Bool.cond_decide]; (repeat' split) <;> first | rfl | omega
theorem auf (s : Str) : tO s = some (aeF s) := by
 unfold tO aeF
 simp only [wD]
 simp only [fU, acY, afV, gV, iZ, fE, adX, afy, tV, aU, y9, nY, abe, abP, afQ, wD, afE, afC, wG]
 cases hr : rngB 1 16 s.length
 ·rfl
 ·rw [nS] at hr
  rw [gV, gV]
  unfold tT
  refine sD (F := fun fu i => eO fu s i) (g := fun r => some (r.all uD)) (fun fu => by rw [eO, aQ (pT (by omega))]; rfl) (fun fu i h ih => ?_) (by omega)
  rw [eO, aL (iV h), aL (inr h), ag4 h, bZ (by omega), ih, List.all_cons, wD, aoO]
  simp only [fU, acY, afV, gV, iZ, fE, adX, afy, tV, aU, y9, nY, abe, abP, afQ, wD, afE, afC, aby]
  simp only [Bool.cond_decide]; (repeat' split) <;> first | rfl | omega
end Md
end PX
set_option linter.unusedVariables false
set_option linter.unusedSimpArgs false
namespace PX
open Go
namespace Md
theorem aiA (x b : Int) : rV x b = some (rngB 0 b x) := by
 unfold rV rngB
 simp only [wD, abP]
def aGn : Option Str → Str → Bool
 | none, _ => false
 | some k, s => Op.bytesLess s k || s == k
def wS : Option Str → List aB → Int
 | _, [] => 0
 | k, x :: r => cond (aeF x.Key) (cond (decide (160 < x.Value.length)) 5 (cond (aGn k x.Key) 16 (wS (some x.Key) r))) 16
def xD (l : List aB) : Int := cond (decide (8 < l.length)) 5 (wS none l)
theorem dD {α : Type} (b : Bool) (x y : α) : some (cond b x y) = cond b (some x) (some y) := by cases b <;> rfl
theorem aeC (l : List aB) : tK l = some (xD l) := by
 unfold tK xD
 rw [dD]
 by_cases hl : l.length > 8
 ·rw [aL (by simp; omega), aL (by simp; omega)]
 ·rw [aQ (by simp; omega), aQ (by simp; omega)]
  have := aaU (n := l.length) (F := fun fu i (_ : Unit) => lA fu l l (l.length : Int) i) (G := fun i _ => some (wS (if i = 0 then none else some (l.getD (i - 1) default).Key) (l.drop i))) (fun _ _ => True)
   (fun fu s _ => by rw [lA, aQ (pT (by omega)), List.drop_length]; rfl)
   (fun fu i s h _ ih => by
    have ih := ih () trivial
    rw [lA, aL (iV h), aL (inr h), cR h, dH (an6 _), bZ (by omega), ih, List.drop_eq_getElem_cons h, wS, if_neg (by omega)]
    simp only [dD, fU, tV, Nat.add_sub_cancel]
    rw [akm h]
    congr 1
    have e : decide (160 < (l[i].Value.length : Int)) = decide (160 < l[i].Value.length) := by rw [Bool.eq_iff_iff]; simp; omega
    rw [e]
    congr 1
    by_cases hz : i = 0
    ·subst hz; rw [aQ (by simp), if_pos rfl]; rfl
    ·have e2 : IntKind.wrap .i64 ((i : Int) - 1) = ((i - 1 : Nat) : Int) := by rw [w64 (by omega) (by omega)]; omega
     rw [aL (by simp; omega), e2, aL (inr (by omega)), Int.toNat_natCast, if_neg hz]; rfl)
   (by omega) () trivial
  simpa using this
theorem ajr (l : List aB) : rA l = some (xD l) := by
 unfold rA xD
 rw [dD]
 by_cases hl : l.length > 8
 ·rw [aL (by simp; omega), aL (by simp; omega)]
 ·rw [aQ (by simp; omega), aQ (by simp; omega)]
  have := aaU (n := l.length) (F := fun fu i (_ : Unit) => iN fu l i) (G := fun i _ => some (wS (if i = 0 then none else some (l.getD (i - 1) default).Key) (l.drop i))) (fun _ _ => True)
   (fun fu s _ => by rw [iN, aQ (pT (by omega)), List.drop_length]; rfl)
   (fun fu i s h _ ih => by
    have ih := ih () trivial
    rw [iN, aL (iV h), aL (inr h), cR h, dH (auf _), bZ (by omega), ih, List.drop_eq_getElem_cons h, wS, if_neg (by omega)]
    simp only [dD, fU, tV, Nat.add_sub_cancel]
    rw [akm h]
    congr 1
    have e : decide (160 < (l[i].Value.length : Int)) = decide (160 < l[i].Value.length) := by rw [Bool.eq_iff_iff]; simp; omega
    rw [e, aL (inr h)]
    congr 1
    by_cases hz : i = 0
    ·subst hz; rw [aQ (by simp), if_pos rfl]; rfl
    ·have e2 : IntKind.wrap .i64 ((i : Int) - 1) = ((i - 1 : Nat) : Int) := by rw [w64 (by omega) (by omega)]; omega
     rw [aL (by simp; omega), aL (inr h), e2, aL (inr (by omega)), Int.toNat_natCast, if_neg hz]; rfl)
   (by omega) () trivial
  simpa using this
def kJ (m : aF) : Int := cond (yI m.Topic) (cond (decide (256 < (m.Payload.length : Int))) 5 (cond (rngB 0 2 m.Level) (cond (rngB 0 9 m.Priority) (cond (rngB 0 1099511627776 m.Expires)
 (cond (m.From == []) (cond (rngB 0 1099511627776 m.Seq) (xD m.Props) 1) (cond (nC m.From) (cond (rngB 0 1099511627776 m.Seq) (xD m.Props) 1) 11)) 1) 1) 14)) 12
theorem aeG (m : aF) (hm : m.From.length < 1000000000000000) : j4 m = some (kJ m) := by
 simp only [j4, kJ, dD, aqQ, aiA, ag8 _ hm, aeC, fU, acY, afV, gV, iZ, fE, adX, afy, tV, aU, y9, nY, abe, abP, afQ, wD, afE, afC]
theorem akh (m : aF) (hm : m.From.length < 1000000000000000) : kC m = some (kJ m) := by
 simp only [kC, nO, nX, kU, kJ, dD, ai1, aaq _ hm, ajr, fU, acY, afV, gV, iZ, fE, adX, afy, tV, aU, y9, nY, abe, abP, afQ, wD, afE, afC, wG]
end Md
end PX
