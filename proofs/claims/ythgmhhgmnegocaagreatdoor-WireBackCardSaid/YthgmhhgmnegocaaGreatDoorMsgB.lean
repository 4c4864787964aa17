import Derived.Test.YthgmhhgmnegocaaGreatDoorMod
import Derived.Test.YthgmhhgmnegocaaGreatDoorPXc
set_option linter.unusedVariables false
set_option linter.unusedSimpArgs false
namespace PX
open Go
namespace Md
def abv (b : UInt8) : Bool := decide (97 ≤ b.toNat) && decide (b.toNat ≤ 122)
def aiA (b : UInt8) : Bool := decide (48 ≤ b.toNat) && decide (b.toNat ≤ 57)
def sH (b : UInt8) : Bool := abv b || aiA b || decide (b.toNat = 45)
def mL (s : Str) : Bool := decide (1 ≤ s.length) && decide (s.length ≤ 16) && abv (s.getD 0 0) && s.all sH
theorem aoc {s : Str} {i : Nat} (h : i < s.length) (f : UInt8 → Bool) : (s.drop i).all f = (f s[i] && (s.drop (i + 1)).all f) := by
 rw [List.drop_eq_getElem_cons h, List.all_cons]
theorem azh (k4 : Str → Nat → Option Bool) (i v w : Nat) (s : Str) :
  (cond (decide ((v : Int) ≥ 97)) (pR k4 (i : Int) (v : Int) (decide ((v : Int) ≤ 122)) s (i + w)) (pR k4 (i : Int) (v : Int) false s (i + w))) =
   if 97 ≤ v ∧ v ≤ 122 then k4 s (i + w) else if i = 0 then some false else if v = 45 ∨ (48 ≤ v ∧ v ≤ 57) then k4 s (i + w) else some false := by
 unfold pR
 by_cases c1 : 97 ≤ v
 ·rw [aL (by simp; omega)]
  by_cases c2 : v ≤ 122
  ·rw [if_pos ⟨c1, c2⟩, aQ (by simp; omega)]
  ·rw [if_neg (by omega), aL (by simp; omega)]
   by_cases c3 : i = 0
   ·rw [if_pos c3, aL (by simpa using c3)]
   ·rw [if_neg c3, aQ (by simpa using c3), if_neg (by omega), aL (by simp; omega), aQ (by simp; omega), aL (by simp; omega)]
 ·rw [aQ (by simp; omega), if_neg (by omega), aL (by rfl)]
  by_cases c3 : i = 0
  ·rw [if_pos c3, aL (by simpa using c3)]
  ·rw [if_neg c3, aQ (by simpa using c3)]
   by_cases c4 : v = 45
   ·rw [if_pos (.inl c4), aQ (by simp; omega)]
   ·rw [aL (by simp; omega)]
    by_cases c5 : v < 48
    ·rw [if_neg (by omega), aL (by simp; omega)]
    ·rw [aQ (by simp; omega)]
     by_cases c6 : v > 57
     ·rw [if_neg (by omega), aL (by simp; omega)]
     ·rw [if_pos (by omega), aQ (by simp; omega)]
theorem ayn (s : Str) (hs : 0 < s.length) : ∀ (k i fu : Nat), s.length - i ≤ k → k < fu → lP fu s i = some ((s.drop i).all sH && (decide (i ≠ 0) || abv (s.getD 0 0))) := by
 intro k
 induction k with
 | zero =>
  intro i fu hi hf
  obtain ⟨fu, rfl⟩ : ∃ n, fu = n + 1 := ⟨fu - 1, by omega⟩
  rw [lP, aQ (by simp; omega), List.drop_eq_nil_of_le (by omega)]
  simp; omega
 | succ k ih =>
  intro i fu hi hf
  obtain ⟨fu, rfl⟩ : ∃ n, fu = n + 1 := ⟨fu - 1, by omega⟩
  by_cases h : i < s.length
  ·rw [lP, aL (by simpa using h), azh, aoc h]
   by_cases lo : s[i].toNat < 128
   ·rw [alU h lo]
    simp only
    have h0 : i = 0 → s.getD 0 0 = s[i] := by rintro rfl; rw [ajg hs]
    by_cases c1 : 97 ≤ s[i].toNat ∧ s[i].toNat ≤ 122
    ·have e1 : abv s[i] = true := by simp [abv, c1]
     rw [if_pos c1, ih (i + 1) fu (by omega) (by omega)]
     by_cases hz : i = 0
     ·rw [h0 hz, e1]; simp [sH, e1]
     ·simp [sH, e1, hz]
    ·have e1 : abv s[i] = false := by simp [abv]; omega
     rw [if_neg c1]
     by_cases hz : i = 0
     ·rw [if_pos hz, h0 hz, e1]; simp [hz]
     ·rw [if_neg hz]
      by_cases c2 : s[i].toNat = 45 ∨ (48 ≤ s[i].toNat ∧ s[i].toNat ≤ 57)
      ·rw [if_pos c2, ih (i + 1) fu (by omega) (by omega)]
       have e2 : sH s[i] = true := by
        simp only [sH, aiA, Bool.or_eq_true, Bool.and_eq_true, decide_eq_true_eq]; omega
       simp [e2, hz]
      ·rw [if_neg c2]
       have e2 : sH s[i] = false := by
        simp only [sH, e1, aiA, Bool.false_or, Bool.or_eq_false_iff, Bool.and_eq_false_iff, decide_eq_false_iff_not]; omega
       simp [e2]
   ·have hd := aiI h (by omega)
    have e2 : sH s[i] = false := by
     simp only [sH, abv, aiA, Bool.or_eq_false_iff, Bool.and_eq_false_iff, decide_eq_false_iff_not]; omega
    rw [if_neg (by omega)]
    by_cases hz : i = 0
    ·rw [if_pos hz]; simp [e2]
    ·rw [if_neg hz, if_neg (by omega)]; simp [e2]
  ·rw [lP, aQ (by simpa using h), List.drop_eq_nil_of_le (by omega)]
   simp; omega
theorem af4 (s : Str) (hl : s.length < 1000000000000000) : oH s = some (mL s) := by
 unfold oH mL
 by_cases c1 : s.length < 1
 ·rw [aL (by simp; omega)]; simp; omega
 ·rw [aQ (by simp; omega)]
  by_cases c2 : s.length > 16
  ·rw [aL (by simp; omega)]; simp; omega
  ·rw [aQ (by simp; omega)]
   unfold zO
   rw [ayn s (by omega) s.length 0 fuel (by omega) (by rw [iX]; omega)]
   have e1 : decide (1 ≤ s.length) = true := by simp; omega
   have e2 : decide (s.length ≤ 16) = true := by simp; omega
   simp [e1, e2, Bool.and_comm]
end Md
end PX
set_option linter.unusedVariables false
set_option linter.unusedSimpArgs false
namespace PX
open Go
namespace Md
theorem drop_nil {α : Type} (l : List α) (n : Nat) (h : l.length ≤ n) : l.drop n = [] := List.drop_eq_nil_of_le h
theorem af0 {s : Str} {i : Nat} (h : i < s.length) : List.getD s (Int.toNat (i : Int)) 0 = s[i] := by rw [Int.toNat_natCast, ajg h]
theorem aoH (b : UInt8) : nK (UInt8.toNat b : Int) = some (abv b) := by
 unfold nK abv
 by_cases c : 97 ≤ b.toNat
 ·rw [aL (by simp; omega)]
  have e : decide (97 ≤ b.toNat) = true := by simpa using c
  rw [e, Bool.true_and]; congr 1; simp <;> omega
 ·rw [aQ (by simp; omega)]
  have e : decide (97 ≤ b.toNat) = false := by simpa using c
  rw [e, Bool.false_and]
theorem auW (b : UInt8) : p7 (UInt8.toNat b : Int) = some (aiA b) := by
 unfold p7 aiA
 by_cases c : 48 ≤ b.toNat
 ·rw [aL (by simp; omega)]
  have e : decide (48 ≤ b.toNat) = true := by simpa using c
  rw [e, Bool.true_and]; congr 1; simp <;> omega
 ·rw [aQ (by simp; omega)]
  have e : decide (48 ≤ b.toNat) = false := by simpa using c
  rw [e, Bool.false_and]
theorem are (s : Str) (hl : s.length < 1000000000000000) : ∀ (k i fu : Nat), i + k = s.length → k < fu → gM fu s (i : Int) = some ((s.drop i).all sH) := by
 intro k
 induction k with
 | zero =>
  intro i fu hi hf
  obtain ⟨fu, rfl⟩ : ∃ n, fu = n + 1 := ⟨fu - 1, by omega⟩
  rw [gM, aQ (pV (by omega)), List.drop_eq_nil_of_le (by omega)]; rfl
 | succ k ih =>
  intro i fu hi hf
  obtain ⟨fu, rfl⟩ : ∃ n, fu = n + 1 := ⟨fu - 1, by omega⟩
  have h : i < s.length := by omega
  rw [gM, aL (jC h), aL (inr h), af0 h, cZ (aoH _), aoc h, cD (by omega), ih (i + 1) fu (by omega) (by omega)]
  unfold sH
  cases c1 : abv s[i]
  ·rw [aL (by rfl), aL (inr h), cZ (auW _)]
   cases c2 : aiA s[i]
   ·rw [aL (by rfl), aL (inr h)]
    by_cases c3 : s[i].toNat = 45
    ·rw [aQ (by simp; omega)]; simp [c3]
    ·rw [aL (by simp; omega)]; simp [c3]
   ·rw [aQ (by rfl)]; simp
  ·rw [aQ (by rfl)]; simp
theorem zH (s : Str) (hl : s.length < 1000000000000000) : iG s = some (mL s) := by
 unfold iG mL
 by_cases c1 : s.length < 1
 ·rw [aL (by simp; omega)]; simp; omega
 ·rw [aQ (by simp; omega)]
  by_cases c2 : s.length > 16
  ·rw [aL (by simp; omega)]; simp; omega
  ·have e1 : decide (1 ≤ s.length) = true := by simp; omega
   have e2 : decide (s.length ≤ 16) = true := by simp; omega
   rw [aQ (by simp; omega), aL (by simp; omega), cZ (aoH _), e1, e2]
   have e3 : List.getD s (Int.toNat 0) 0 = s.getD 0 0 := rfl
   rw [e3]
   cases c3 : abv (s.getD 0 0)
   ·rw [aL (by rfl)]; simp
   ·rw [aQ (by rfl)]
    unfold rZ
    have := are s hl s.length 0 fuel (by omega) (by rw [iX]; omega)
    rw [show ((0 : Nat) : Int) = 0 from rfl] at this
    rw [this]; simp
theorem aCk (s : Str) (hl : s.length < 1000000000000000) (c : UInt8) : ∀ (k i fu : Nat), i + k = s.length → k < fu → kD fu s (c.toNat : Int) (i : Int) = some ((s.drop i).contains c) := by
 intro k
 induction k with
 | zero =>
  intro i fu hi hf
  obtain ⟨fu, rfl⟩ : ∃ n, fu = n + 1 := ⟨fu - 1, by omega⟩
  rw [kD, aQ (pV (by omega)), List.drop_eq_nil_of_le (by omega)]; rfl
 | succ k ih =>
  intro i fu hi hf
  obtain ⟨fu, rfl⟩ : ∃ n, fu = n + 1 := ⟨fu - 1, by omega⟩
  have h : i < s.length := by omega
  rw [kD, aL (jC h), aL (inr h), af0 h, cD (by omega), ih (i + 1) fu (by omega) (by omega), List.drop_eq_getElem_cons h, List.contains_cons]
  by_cases e : s[i] = c
  ·rw [aL (by simp [e])]; simp [e]
  ·have e2 : ¬ s[i].toNat = c.toNat := fun h => e (UInt8.toNat.inj h)
   rw [aQ (by simp; omega)]
   have e3 : (c == s[i]) = false := by simp; exact fun h => e h.symm
   simp [e3]
theorem ahU (s : Str) (hl : s.length < 1000000000000000) (c : UInt8) {n : Int} (hn : n = (c.toNat : Int)) : jX s n = some (s.contains c) := by
 subst hn
 have := aCk s hl c s.length 0 fuel (by omega) (by rw [iX]; omega)
 simpa [jX] using this
def sizedB (s : Str) : Bool := decide (1 ≤ s.length) && decide (s.length ≤ 64) && !(s.contains 0) && decide (s.count 47 + 1 ≤ 8)
theorem av9 (s : Str) : ∀ (k i fu c : Nat), s.length - i ≤ k → k < fu → c + k < 1000000000 → kO fu (c : Int) s i = some (!((s.drop i).contains 0) && decide (c + (s.drop i).count 47 ≤ 8)) := by
 intro k
 induction k with
 | zero =>
  intro i fu c hi hf hc
  obtain ⟨fu, rfl⟩ : ∃ n, fu = n + 1 := ⟨fu - 1, by omega⟩
  have ec : decide ((c : Int) ≤ 8) = decide (c ≤ 8) := by rw [decide_eq_decide]; omega
  rw [kO, aQ (by simp; omega), List.drop_eq_nil_of_le (by omega), ec]; simp <;> exact decide_eq_decide.2 Iff.rfl
 | succ k ih =>
  intro i fu c hi hf hc
  obtain ⟨fu, rfl⟩ : ∃ n, fu = n + 1 := ⟨fu - 1, by omega⟩
  by_cases h : i < s.length
  ·rw [kO, aL (by simpa using h)]
   by_cases lo : s[i].toNat < 128
   ·rw [alU h lo, List.drop_eq_getElem_cons h, List.contains_cons, List.count_cons]
    simp only
    by_cases c0 : s[i].toNat = 0
    ·have e : s[i] = 0 := UInt8.toNat.inj (by simpa using c0)
     rw [aL (by simp; omega)]; simp [e]
    ·have e : (0 == s[i]) = false := by simp; intro h; rw [← h] at c0; simp at c0
     rw [aQ (by simp; omega), e, Bool.false_or]
     by_cases c1 : s[i].toNat = 47
     ·have e1 : s[i] = 47 := UInt8.toNat.inj (by simpa using c1)
      rw [aL (by simp; omega), cD (by omega), ih (i + 1) fu (c + 1) (by omega) (by omega) (by omega)]
      simp only [e1, beq_self_eq_true, if_true]
      rw [show c + 1 + List.count 47 (List.drop (i + 1) s) = c + (List.count 47 (List.drop (i + 1) s) + 1) by omega]
     ·have e1 : (s[i] == 47) = false := by simp; intro h; rw [h] at c1; simp at c1
      rw [aQ (by simp; omega), ih (i + 1) fu c (by omega) (by omega) (by omega)]
      simp [e1]
   ·obtain ⟨t, ht, hh⟩ := akf h (by omega)
    have hd := aiI h (by omega)
    rw [aQ (by simp; omega), aQ (by simp; omega), ih (i + (dec s i).2) fu c (by omega) (by omega) (by omega), ht, vX hh (by decide), aq6 hh (by decide)]
  ·have ec : decide ((c : Int) ≤ 8) = decide (c ≤ 8) := by rw [decide_eq_decide]; omega
   rw [kO, aQ (by simpa using h), List.drop_eq_nil_of_le (by omega), ec]; simp <;> exact decide_eq_decide.2 Iff.rfl
theorem apm (s : Str) : wC s = some (sizedB s) := by
 unfold wC sizedB
 by_cases c1 : s.length < 1
 ·rw [aL (by simp; omega)]; simp; omega
 ·rw [aQ (by simp; omega)]
  by_cases c2 : s.length > 64
  ·rw [aL (by simp; omega)]; simp; omega
  ·have e1 : decide (1 ≤ s.length) = true := by simp; omega
   have e2 : decide (s.length ≤ 64) = true := by simp; omega
   rw [aQ (by simp; omega), e1, e2]
   unfold yL
   have := av9 s s.length 0 fuel 1 (by omega) (by rw [iX]; omega) (by omega)
   rw [show ((1 : Nat) : Int) = 1 from rfl] at this
   rw [this]; simp [Nat.add_comm]
def dK : Str → List Str
 | [] => [[]]
 | b :: r => if b = 47 then [] :: dK r else match dK r with | [] => [[b]] | h :: t => (b :: h) :: t
theorem aaK (s : Str) : dK s ≠ [] := by
 cases s with
 | nil => simp [dK]
 | cons b r => simp only [dK]; split <;> (try simp); split <;> simp
theorem abF : ∀ s : Str, (dK s).length = s.count 47 + 1
 | [] => by simp [dK]
 | b :: r => by
  have ih := abF r
  simp only [dK, List.count_cons]
  by_cases h : b = 47
  ·simp [h, ih]
  ·rw [if_neg h]
   have hb : (b == 47) = false := by simpa using h
   cases hr : dK r with
   | nil => exact absurd hr (aaK r)
   | cons x t => rw [hr] at ih; simp [hb] at ih ⊢; omega
def afF (p : Str) : List Str → List Str
 | [] => [p]
 | h :: t => (p ++ h) :: t
theorem ari (p r : Str) : afF p (dK (47 :: r)) = p :: dK r := by simp [dK, afF]
theorem asJ (p r : Str) {b : UInt8} (h : b ≠ 47) : afF p (dK (b :: r)) = afF (p ++ [b]) (dK r) := by
 simp only [dK, if_neg h]
 cases hr : dK r with
 | nil => exact absurd hr (aaK r)
 | cons x t => simp [afF]
theorem awD (s : Str) {a i : Nat} (h1 : a ≤ i) (h2 : i ≤ s.length) : dI s (some (a : Int)) (some (i : Int)) = (s.take i).drop a := by simp [dI]
theorem auL (s : Str) {a i : Nat} (h1 : a ≤ i) (h2 : i < s.length) : (s.take i).drop a ++ [s[i]] = (s.take (i + 1)).drop a := by
 rw [← asp h2, List.drop_append_of_le_length (by simp; omega)]
theorem ape (s : Str) (hl : s.length < 1000000) : ∀ (k i fu a : Nat) (acc : List Str), i + k = s.length → k < fu → a ≤ i → acc.length ≤ i →
  gR fu s (a : Int) (i : Int) acc = some (acc ++ afF ((s.take i).drop a) (dK (s.drop i))) := by
 intro k
 induction k with
 | zero =>
  intro i fu a acc hi hf ha hacc
  obtain ⟨fu, rfl⟩ : ∃ n, fu = n + 1 := ⟨fu - 1, by omega⟩
  have e : dI s (some (a : Int)) none = (s.take i).drop a := by simp [dI, List.take_of_length_le (show s.length ≤ i by omega)]
  rw [gR, aQ (pV (by omega)), aL (by simp; omega), e, aL (by simp; omega), drop_nil s i (by omega)]
  simp [dK, afF]
 | succ k ih =>
  intro i fu a acc hi hf ha hacc
  obtain ⟨fu, rfl⟩ : ∃ n, fu = n + 1 := ⟨fu - 1, by omega⟩
  have h : i < s.length := by omega
  rw [gR, aL (jC h), aL (inr h), af0 h, cD (by omega), List.drop_eq_getElem_cons (l := s) h]
  by_cases c : s[i].toNat = 47
  ·have e : s[i] = 47 := UInt8.toNat.inj (by simpa using c)
   rw [aL (by simp; omega), aL (by simp; omega), aL (by simp; omega), awD s ha (by omega), aL (by simp; omega), ih (i + 1) fu (i + 1) _ (by omega) (by omega) (by omega) (by simp; omega), e, ari]
   rw [drop_nil (s.take (i + 1)) _ (by simp; omega)]
   cases hr : dK (s.drop (i + 1)) with
   | nil => exact absurd hr (aaK _)
   | cons x t => simp [afF]
  ·have e : s[i] ≠ 47 := fun h => c (by rw [h]; rfl)
   rw [aQ (by simp; omega), ih (i + 1) fu a acc (by omega) (by omega) (by omega) (by omega), asJ _ _ e, auL s ha h]
theorem ahu (s : Str) (hl : s.length < 1000000) : oX s = some (dK s) := by
 have := ape s hl s.length 0 fuel 0 [] (by omega) (by rw [iX]; omega) (by omega) (by simp)
 have e : afF [] (dK s) = dK s := by
  cases hr : dK s with
  | nil => exact absurd hr (aaK _)
  | cons x t => simp [afF]
 simp only [List.drop_zero, List.take_zero, List.drop_nil, List.nil_append, e] at this
 exact this
theorem aiG (s : Str) : nH s = some (sizedB s) := by
 unfold nH sizedB
 by_cases c1 : s.length < 1
 ·rw [aQ (by simp; omega)]; simp; omega
 ·rw [aL (by simp; omega)]
  by_cases c2 : s.length > 64
  ·rw [aQ (by simp; omega)]; simp; omega
  ·have e1 : decide (1 ≤ s.length) = true := by simp; omega
   have e2 : decide (s.length ≤ 64) = true := by simp; omega
   rw [aL (by simp; omega), cZ (ahU s (by omega) 0 (n := 0) rfl), e1, e2, Bool.true_and, Bool.true_and]
   cases s.contains 0
   ·rw [aL (by rfl), cZ (ahu s (by omega)), abF]
    simp; omega
   ·rw [aQ (by rfl)]; rfl
def xG (s : Str) : Bool := sizedB s && !(s.contains 43) && !(s.contains 35)
theorem awo (s : Str) : ∀ (k i fu : Nat), s.length - i ≤ k → k < fu → lW fu s i = some (!((s.drop i).contains 43) && !((s.drop i).contains 35)) := by
 intro k
 induction k with
 | zero =>
  intro i fu hi hf
  obtain ⟨fu, rfl⟩ : ∃ n, fu = n + 1 := ⟨fu - 1, by omega⟩
  rw [lW, aQ (by simp; omega), List.drop_eq_nil_of_le (by omega)]; rfl
 | succ k ih =>
  intro i fu hi hf
  obtain ⟨fu, rfl⟩ : ∃ n, fu = n + 1 := ⟨fu - 1, by omega⟩
  by_cases h : i < s.length
  ·rw [lW, aL (by simpa using h)]
   by_cases lo : s[i].toNat < 128
   ·rw [alU h lo, List.drop_eq_getElem_cons h, List.contains_cons, List.contains_cons]
    simp only
    by_cases c0 : s[i].toNat = 43
    ·have e : s[i] = 43 := UInt8.toNat.inj (by simpa using c0)
     rw [aL (by simp; omega)]; simp [e]
    ·have e : (43 == s[i]) = false := by simp; intro h; rw [← h] at c0; simp at c0
     rw [aQ (by simp; omega), e, Bool.false_or]
     by_cases c1 : s[i].toNat = 35
     ·have e1 : s[i] = 35 := UInt8.toNat.inj (by simpa using c1)
      rw [aL (by simp; omega)]; simp [e1]
     ·have e1 : (35 == s[i]) = false := by simp; intro h; rw [← h] at c1; simp at c1
      rw [aQ (by simp; omega), ih (i + 1) fu (by omega) (by omega), e1, Bool.false_or]
   ·obtain ⟨t, ht, hh⟩ := akf h (by omega)
    have hd := aiI h (by omega)
    rw [aQ (by simp; omega), aQ (by simp; omega), ih (i + (dec s i).2) fu (by omega) (by omega), ht, vX hh (by decide), vX hh (by decide)]
  ·rw [lW, aQ (by simpa using h), List.drop_eq_nil_of_le (by omega)]; rfl
theorem acO {s : Str} (h : sizedB s = true) : 1 ≤ s.length ∧ s.length ≤ 64 := by
 simp only [sizedB, Bool.and_eq_true, decide_eq_true_eq] at h
 exact ⟨h.1.1.1, h.1.1.2⟩
theorem apo (s : Str) : zJ s = some (xG s) := by
 unfold zJ xG
 rw [cZ (apm s)]
 cases h : sizedB s
 ·rw [aL (by rfl)]; rfl
 ·have := acO h
  rw [aQ (by rfl), awo s s.length 0 fuel (by omega) (by rw [iX]; omega)]
  simp
theorem ais (s : Str) : p8 s = some (xG s) := by
 unfold p8 xG
 rw [cZ (aiG s)]
 cases h : sizedB s
 ·rw [aQ (by rfl)]; rfl
 ·have := acO h
  rw [aL (by rfl), cZ (ahU s (by omega) 43 (n := 43) rfl)]
  cases s.contains 43
  ·rw [aL (by rfl), cZ (ahU s (by omega) 35 (n := 35) rfl)]; rfl
  ·rw [aQ (by rfl)]; rfl
end Md
end PX
set_option linter.unusedVariables false
set_option linter.unusedSimpArgs false
namespace PX
open Go
namespace Md
theorem adR (c : UInt8) : ∀ l : Str, (Lib.indexByte l c = -1 ∧ l.count c = 0) ∨ ∃ m : Nat, Lib.indexByte l c = m ∧ m < l.length ∧ l = l.take m ++ c :: l.drop (m + 1) ∧ (l.take m).count c = 0
 | [] => .inl (by simp [Lib.indexByte])
 | b :: l => by
  rw [Lib.indexByte]
  by_cases h : b = c
  ·subst h
   exact .inr ⟨0, by simp, by simp, by simp, by simp⟩
  ·have hb : (b == c) = false := by simpa using h
   rw [hb]
   simp only [Bool.false_eq_true, if_false]
   rcases adR c l with ⟨h1, h2⟩ | ⟨m, h1, h2, h3, h4⟩
   ·left
    rw [h1]
    exact ⟨by simp, by rw [List.count_cons, hb, h2]; simp⟩
   ·right
    have : ((m : Int) == -1) = false := by simp <;> omega
    refine ⟨m + 1, by rw [h1, this]; simp, by simp; omega, ?_, by rw [List.take_succ_cons, List.count_cons, hb, h4]; simp⟩
    simp only [List.take_succ_cons, List.drop_succ_cons, List.cons_append]
    rw [← h3]
theorem ajB : ∀ {l : Str}, l.count 47 = 0 → dK l = [l]
 | [], _ => rfl
 | b :: l, h => by
  rw [List.count_cons] at h
  have h1 : l.count 47 = 0 := by omega
  have h2 : b ≠ 47 := by rintro rfl; simp at h
  simp only [dK, if_neg h2, ajB h1]
theorem ajS : ∀ {p r : Str}, p.count 47 = 0 → dK (p ++ 47 :: r) = p :: dK r
 | [], r, _ => by simp [dK]
 | b :: p, r, h => by
  rw [List.count_cons] at h
  have h1 : p.count 47 = 0 := by omega
  have h2 : b ≠ 47 := by rintro rfl; simp at h
  simp only [List.cons_append, dK, if_neg h2, ajS h1]
theorem as3 (s : Str) (hs : s ≠ [47]) : nQ s ([47] : Str) = some (Lib.indexByte s 47) := by
 unfold nQ kX
 have : (([47] : Str) == s) = false := by simp; exact fun h => hs h.symm
 rw [aQ (by rfl), aQ this, aL (by rfl), aL (by rfl)]
 rfl
theorem ajM (s : Str) : nQ s ([47] : Str) = some (Lib.indexByte s 47) := by
 by_cases h : s = [47]
 ·subst h; rfl
 ·exact as3 s h
theorem awJ (N : Nat) (hN : N < 100000) : ∀ (k i fu : Nat) (s : Str) (acc : List Str), i + k = N → k < fu → s.count 47 = k → s.length < 1000000 → acc.length = i →
  jF fu s ([47] : Str) 0 (N : Int) (i : Int) (acc ++ List.replicate (k + 1) default) = some (acc ++ dK s) := by
 intro k
 induction k with
 | zero =>
  intro i fu s acc hi hf hc hs ha
  obtain ⟨fu, rfl⟩ : ∃ n, fu = n + 1 := ⟨fu - 1, by omega⟩
  rw [jF, aQ (pV (by omega))]
  unfold nE
  have e : (acc ++ List.replicate (0 + 1) (default : Str)).set i s = acc ++ [s] := by
   rw [List.set_append_right _ _ (by omega)]; simp [ha]
  rw [Int.toNat_natCast, e, aL (by simp; omega), cD (by omega), aL (by simp; omega), ajB hc, Int.toNat_natCast]
  rw [Nat.sub_zero, List.drop_zero, List.take_of_length_le (by simp; omega)]
 | succ k ih =>
  intro i fu s acc hi hf hc hs ha
  obtain ⟨fu, rfl⟩ : ∃ n, fu = n + 1 := ⟨fu - 1, by omega⟩
  rw [jF, aL (jC (by omega)), cZ (ajM s)]
  rcases adR 47 s with ⟨h1, h2⟩ | ⟨m, h1, h2, h3, h4⟩
  ·omega
  ·have e1 : IntKind.wrap .i64 ((m : Int) + 0) = (m : Int) := by rw [w64 (by omega) (by omega)]; omega
   have e2 : IntKind.wrap .i64 ((m : Int) + (List.length ([47] : Str) : Int)) = ((m + 1 : Nat) : Int) := cD (by omega)
   have e3 : dI s none (some (m : Int)) = s.take m := by simp [dI]
   have e4 : dI s (some ((m + 1 : Nat) : Int)) none = s.drop (m + 1) := by simp [dI]
   have hcount : (s.drop (m + 1)).count 47 = k := by
    have := congrArg (List.count 47) h3
    rw [List.count_append, h4, List.count_cons_self, hc] at this
    omega
   have hset : (acc ++ List.replicate (k + 1 + 1) (default : Str)).set i (s.take m) = (acc ++ [s.take m]) ++ List.replicate (k + 1) default := by
    rw [List.set_append_right _ _ (by omega), List.replicate_succ]; simp [ha]
   rw [h1, aQ (by simp <;> omega), e1, e2, e3, e4, aL (by simp; omega), aL (by simp; omega), aL (by simp; omega), cD (by omega), Int.toNat_natCast, hset,
    ih (i + 1) fu (s.drop (m + 1)) (acc ++ [s.take m]) (by omega) (by omega) hcount (by simp; omega) (by simp; omega)]
   have : dK s = s.take m :: dK (s.drop (m + 1)) := by
    conv => lhs; rw [h3]
    exact ajS h4
   rw [this]; simp
theorem atw (s : Str) (hs : s.length < 100000) : wZ s = some (dK s) := by
 have hc : s.count 47 ≤ s.length := List.count_le_length
 have hsplit : vQ s ([47] : Str) = some (dK s) := by
  unfold vQ vE
  have h1 : vV s ([47] : Str) = some ((s.count 47 : Nat) : Int) := by
   unfold vV
   rw [aQ (by rfl), aL (by rfl), aL (by rfl)]
   rfl
  rw [aQ (by rfl), aQ (by rfl), aL (by rfl), cZ h1]
  unfold nY
  have e1 : IntKind.wrap .i64 (((s.count 47 : Nat) : Int) + 1) = ((s.count 47 + 1 : Nat) : Int) := cD (by omega)
  have e2 : IntKind.wrap .i64 ((s.length : Int) + 1) = ((s.length + 1 : Nat) : Int) := cD (by omega)
  rw [e1, e2]
  have e3 : (if ((s.length + 1 : Nat) : Int) < ((s.count 47 + 1 : Nat) : Int) then ((s.length + 1 : Nat) : Int) else ((s.count 47 + 1 : Nat) : Int)) = ((s.count 47 + 1 : Nat) : Int) := by rw [if_neg (by omega)]
  have e4 : IntKind.wrap .i64 (((s.count 47 + 1 : Nat) : Int) - 1) = ((s.count 47 : Nat) : Int) := by rw [w64 (by omega) (by omega)]; omega
  simp only [e3]
  rw [aL (by simp; omega), e4, Int.toNat_natCast]
  have := awJ (s.count 47) (by omega) (s.count 47) 0 fuel s [] (by omega) (by rw [iX]; omega) rfl (by omega) rfl
  simp only [List.nil_append] at this
  rw [show ((0 : Nat) : Int) = 0 from rfl] at this
  rw [this]; rfl
 unfold wZ
 rw [cZ hsplit]
def aiP (l : Str) (one last : Bool) : Bool := (l.contains 43 && !one) || (l.contains 35 && (!one || !last))
def adl : List Str → Bool
 | [] => true
 | lv :: r => !(aiP lv (decide (lv.length = 1)) r.isEmpty) && adl r
def o8 (s : Str) : Bool := sizedB s && adl (dK s)
theorem awp (k6 : (List Str) → Bool → (List Str) → Int → Int → Option Bool) (x3 x15 : List Str) (x4 : Bool) (x16 : Int) (lv : Str) (i : Nat) (hi : i < x3.length) (hx : x3.length < 1000000) :
  ∀ (k j fu : Nat), lv.length - j ≤ k → k < fu → iE fu k6 x3 x4 (i : Int) lv x15 x16 (i : Int) lv j =
   if aiP (lv.drop j) (decide (lv.length = 1)) (decide (i + 1 = x3.length)) = true then some false else k6 x3 x4 x15 x16 ((i + 1 : Nat) : Int) := by
 intro k
 have hw : IntKind.wrap .i64 ((x3.length : Int) - 1) = ((x3.length - 1 : Nat) : Int) := by rw [w64 (by omega) (by omega)]; omega
 induction k with
 | zero =>
  intro j fu hj hf
  obtain ⟨fu, rfl⟩ : ∃ n, fu = n + 1 := ⟨fu - 1, by omega⟩
  rw [iE, aQ (by simp; omega), List.drop_eq_nil_of_le (by omega), cD (by omega)]; simp [aiP]
 | succ k ih =>
  intro j fu hj hf
  obtain ⟨fu, rfl⟩ : ∃ n, fu = n + 1 := ⟨fu - 1, by omega⟩
  by_cases h : j < lv.length
  ·rw [iE, aL (by simpa using h), hw]
   by_cases lo : lv[j].toNat < 128
   ·rw [alU h lo]
    simp only
    rw [ih (j + 1) fu (by omega) (by omega), List.drop_eq_getElem_cons h]
    have ev : (!((lv.length : Int) == 1)) = !(decide (lv.length = 1)) := by rw [Bool.eq_iff_iff]; simp; omega
    have el : decide ((i : Int) < ((x3.length - 1 : Nat) : Int)) = !(decide (i + 1 = x3.length)) := by rw [Bool.eq_iff_iff]; simp; omega
    rw [ev, el]
    unfold aiP
    rw [List.contains_cons, List.contains_cons]
    by_cases c0 : lv[j].toNat = 43
    ·have e : lv[j] = 43 := UInt8.toNat.inj (by simpa using c0)
     rw [aL (by simp; omega), e]
     cases hd1 : decide (lv.length = 1)
     ·rw [aL (by rfl)]; simp
     ·rw [aQ (by rfl), aQ (by decide)]; simp
    ·have e : (43 == lv[j]) = false := by simp; intro h; rw [← h] at c0; simp at c0
     rw [aQ (by simp; omega), e, Bool.false_or]
     by_cases c1 : lv[j].toNat = 35
     ·have e1 : lv[j] = 35 := UInt8.toNat.inj (by simpa using c1)
      rw [aL (by simp; omega), e1]
      cases decide (lv.length = 1) <;> cases decide (i + 1 = x3.length) <;> simp
     ·have e1 : (35 == lv[j]) = false := by simp; intro h; rw [← h] at c1; simp at c1
      rw [aQ (by simp; omega), e1, Bool.false_or]
   ·obtain ⟨t, ht, hh⟩ := akf h (by omega)
    have hd := aiI h (by omega)
    rw [aQ (by simp; omega), aQ (by simp; omega), ih (j + (dec lv j).2) fu (by omega) (by omega), ht]
    unfold aiP
    rw [vX hh (by decide), vX hh (by decide)]
  ·rw [iE, aQ (by simpa using h), List.drop_eq_nil_of_le (by omega), cD (by omega)]; simp [aiP]
theorem auj (l : List Str) (hl : l.length < 1000000) (hlv : ∀ x ∈ l, x.length < 1000000) : ∀ (k i fu : Nat), i + k = l.length → k < fu → m8 fu l true l (l.length : Int) (i : Int) = some (adl (l.drop i)) := by
 intro k
 induction k with
 | zero =>
  intro i fu hi hf
  obtain ⟨fu, rfl⟩ : ∃ n, fu = n + 1 := ⟨fu - 1, by omega⟩
  rw [m8, aQ (pV (by omega)), List.drop_eq_nil_of_le (by omega)]; rfl
 | succ k ih =>
  intro i fu hi hf
  obtain ⟨fu, rfl⟩ : ∃ n, fu = n + 1 := ⟨fu - 1, by omega⟩
  have h : i < l.length := by omega
  have hx := hlv _ (List.getElem_mem h)
  rw [m8, aL (jC h), aL (inr h), cN h, awp _ l l true _ l[i] i h hl l[i].length 0 fuel (by omega) (by rw [iX]; omega), List.drop_zero, List.drop_eq_getElem_cons h, adl]
  have el : decide (i + 1 = l.length) = (l.drop (i + 1)).isEmpty := by rw [Bool.eq_iff_iff]; simp; omega
  rw [el]
  cases aiP l[i] (decide (l[i].length = 1)) (l.drop (i + 1)).isEmpty
  ·simp only [Bool.false_eq_true, if_false]
   rw [ih (i + 1) fu (by omega) (by omega)]; simp
  ·simp
theorem agE : ∀ (s : Str), ∀ x ∈ dK s, x.length ≤ s.length
 | [], x, hx => by simp [dK] at hx; subst hx; simp
 | b :: r, x, hx => by
  have ih := agE r
  simp only [dK] at hx
  split at hx
  ·rcases List.mem_cons.1 hx with rfl | hx
   ·simp
   ·have := ih x hx; simp; omega
  ·cases hr : dK r with
   | nil => exact absurd hr (aaK r)
   | cons y t =>
    rw [hr] at hx ih
    rcases List.mem_cons.1 hx with rfl | hx
    ·have := ih y List.mem_cons_self; simp; omega
    ·have := ih x (List.mem_cons_of_mem _ hx); simp; omega
theorem filter_eq (s : Str) : uF s = some (o8 s) := by
 unfold uF o8
 rw [cZ (apm s)]
 cases h : sizedB s
 ·rw [aL (by rfl)]; rfl
 ·have hl := acO h
  have hc : s.count 47 ≤ s.length := List.count_le_length
  have hn := abF s
  rw [aQ (by rfl), cZ (atw s (by omega))]
  have := auj (dK s) (by omega) (fun x hx => by have := agE s x hx; omega) (dK s).length 0 fuel (by omega) (by rw [iX]; omega)
  rw [show ((0 : Nat) : Int) = 0 from rfl] at this
  rw [this]; simp
theorem asl {l : Str} {c : UInt8} (h : l.contains c = true) : decide (l.length = 1) = (l == [c]) := by
 rw [Bool.eq_iff_iff]
 simp only [decide_eq_true_eq, beq_iff_eq]
 constructor
 ·intro h1
  match l, h1, h with
  | [x], _, h => simp at h; simp [h]
 ·rintro rfl; rfl
theorem ar3 (k5 : Int → (List Str) → Option Bool) (l : List Str) (hl : l.length < 1000000) (i : Nat) (h : i < l.length) (hx : l[i].length < 1000000) :
  kB k5 (i : Int) l = if (l[i].contains 35 && (!(decide (l[i].length = 1)) || !((l.drop (i + 1)).isEmpty))) = true then some false else k5 ((i + 1 : Nat) : Int) l := by
 have hw : IntKind.wrap .i64 ((l.length : Int) - 1) = ((l.length - 1 : Nat) : Int) := by rw [w64 (by omega) (by omega)]; omega
 unfold kB
 rw [aL (inr h), cN h, cZ (ahU l[i] (by omega) 35 (n := 35) rfl), cD (by omega)]
 cases h1 : l[i].contains 35
 ·rw [aQ (by rfl)]; simp
 ·rw [aL (by rfl), aL (inr h), ← asl h1, hw]
  have el : ((i : Int) != ((l.length - 1 : Nat) : Int)) = !((l.drop (i + 1)).isEmpty) := by rw [Bool.eq_iff_iff]; simp; omega
  rw [el]
  cases decide (l[i].length = 1) <;> cases (l.drop (i + 1)).isEmpty <;> simp
theorem aqP (l : List Str) (hl : l.length < 1000000) (hlv : ∀ x ∈ l, x.length < 1000000) : ∀ (k i fu : Nat), i + k = l.length → k < fu → gV fu (i : Int) l = some (adl (l.drop i)) := by
 intro k
 induction k with
 | zero =>
  intro i fu hi hf
  obtain ⟨fu, rfl⟩ : ∃ n, fu = n + 1 := ⟨fu - 1, by omega⟩
  rw [gV, aQ (pV (by omega)), List.drop_eq_nil_of_le (by omega)]; rfl
 | succ k ih =>
  intro i fu hi hf
  obtain ⟨fu, rfl⟩ : ∃ n, fu = n + 1 := ⟨fu - 1, by omega⟩
  have h : i < l.length := by omega
  have hx := hlv _ (List.getElem_mem h)
  rw [gV, aL (jC h), aL (inr h), cN h, cZ (ahU l[i] (by omega) 43 (n := 43) rfl), ar3 _ l hl i h hx, ih (i + 1) fu (by omega) (by omega), List.drop_eq_getElem_cons h, adl]
  unfold aiP
  cases h1 : l[i].contains 43
  ·rw [aQ (by rfl)]
   simp only [Bool.false_and, Bool.false_or]
   cases (l[i].contains 35 && (!(decide (l[i].length = 1)) || !((l.drop (i + 1)).isEmpty))) <;> simp
  ·rw [aL (by rfl), aL (inr h), ← asl h1]
   cases h2 : decide (l[i].length = 1)
   ·rw [aL (by rfl)]; simp
   ·rw [aQ (by rfl)]
    cases (l[i].contains 35) <;> cases ((l.drop (i + 1)).isEmpty) <;> simp
theorem ahq (s : Str) : lX s = some (o8 s) := by
 unfold lX o8
 rw [cZ (aiG s)]
 cases h : sizedB s
 ·rw [aL (by rfl)]; rfl
 ·have hl := acO h
  have hc : s.count 47 ≤ s.length := List.count_le_length
  have hn := abF s
  rw [aQ (by rfl), cZ (ahu s (by omega))]
  have := aqP (dK s) (by omega) (fun x hx => by have := agE s x hx; omega) (dK s).length 0 fuel (by omega) (by rw [iX]; omega)
  rw [show ((0 : Nat) : Int) = 0 from rfl] at this
  rw [this]; simp
abbrev zF : Str := [36, 115, 104, 97, 114, 101, 47]
def n5 (s p : Str) : Bool := decide (p.length ≤ s.length) && (s.take p.length == p)
theorem adx (s p : Str) : j8 s p = some (n5 s p) := by
 unfold j8 n5
 by_cases h : p.length ≤ s.length
 ·rw [aL (by simp; omega), aL (by simp; omega)]; simp [dI, h]
 ·rw [aQ (by simp; omega)]; simp [h]
theorem aii (s p : Str) : mH s p = some (n5 s p) := adx s p
theorem ahp (s p : Str) : nN s p = some (n5 s p) := by
 unfold nN; rw [cZ (adx s p)]
theorem apw (s p : Str) : pX s p = some (if n5 s p = true then (s.drop p.length, true) else (s, false)) := by
 unfold pX pC
 rw [cZ (adx s p)]
 cases h : n5 s p
 ·rw [aL (by rfl)]; rfl
 ·have hl : p.length ≤ s.length := by simp only [n5, Bool.and_eq_true, decide_eq_true_eq] at h; exact h.1
  rw [aQ (by rfl), aL (by simp; omega)]; simp [dI]
theorem axm (s : Str) (hs : s.length < 1000000000000000) : zB s ([47] : Str) = some (if Lib.indexByte s 47 = -1 then (s, [], false) else (s.take (Lib.indexByte s 47).toNat, s.drop ((Lib.indexByte s 47).toNat + 1), true)) := by
 have hi : kX s ([47] : Str) = some (Lib.indexByte s 47) := by
  have := ajM s
  unfold nQ at this
  cases h : kX s ([47] : Str) with
  | none => rw [h] at this; cases this
  | some v => rw [h] at this; exact this
 unfold zB wT
 rw [cZ hi]
 rcases adR 47 s with ⟨h1, h2⟩ | ⟨m, h1, h2, h3, h4⟩
 ·rw [h1, aQ (by rfl)]; rfl
 ·have e2 : IntKind.wrap .i64 ((m : Int) + (List.length ([47] : Str) : Int)) = ((m + 1 : Nat) : Int) := cD (by omega)
  rw [h1, aL (by simp), aL (by simp; omega), e2, aL (by simp; omega), if_neg (by omega)]
  simp [dI]
def sF (s : Str) : Option (Str × Str) :=
 if n5 s zF = true then
  (if Lib.indexByte (s.drop 7) 47 = -1 then none
  else if (mL ((s.drop 7).take (Lib.indexByte (s.drop 7) 47).toNat) && o8 ((s.drop 7).drop ((Lib.indexByte (s.drop 7) 47).toNat + 1)) && !(n5 ((s.drop 7).drop ((Lib.indexByte (s.drop 7) 47).toNat + 1)) zF)) = true then
   some ((s.drop 7).take (Lib.indexByte (s.drop 7) 47).toNat, (s.drop 7).drop ((Lib.indexByte (s.drop 7) 47).toNat + 1)) else none)
 else none
def uB (o : Option (Str × Str)) : Str × Str × Bool := match o with | some (g, f) => (g, f, true) | none => ([], [], false)
theorem ash (s : Str) (hs : s.length < 1000000000000000) : xB s = some (uB (sF s)) := by
 unfold xB sF
 rw [cZ (apw s zF)]
 cases h : n5 s zF
 ·rw [aL (by rfl)]; rfl
 ·simp only [if_true]
  have e7 : s.drop zF.length = s.drop 7 := rfl
  rw [aQ (by rfl), e7, cZ (axm (s.drop 7) (by simp; omega))]
  by_cases h1 : Lib.indexByte (s.drop 7) 47 = -1
  ·rw [if_pos h1, if_pos h1, aL (by rfl)]; rfl
  ·rw [if_neg h1, if_neg h1, aQ (by rfl)]
   rw [cZ (af4 _ (by simp; omega))]
   cases mL ((s.drop 7).take (Lib.indexByte (s.drop 7) 47).toNat)
   ·rw [aL (by rfl)]; simp [uB]
   ·rw [aQ (by rfl), cZ (filter_eq _)]
    cases o8 ((s.drop 7).drop ((Lib.indexByte (s.drop 7) 47).toNat + 1))
    ·rw [aL (by rfl)]; simp [uB]
    ·rw [aQ (by rfl), cZ (ahp _ _)]
     cases n5 ((s.drop 7).drop ((Lib.indexByte (s.drop 7) 47).toNat + 1)) zF
     ·rw [aQ (by rfl)]; simp [uB]
     ·rw [aL (by rfl)]; simp [uB]
def agm (s : Str) : Nat := if Lib.indexByte s 47 = -1 then s.length else (Lib.indexByte s 47).toNat
theorem apa (s : Str) (hs : s.length < 1000000000000000) : ∀ (k i fu : Nat), i + k = s.length → k < fu → iW fu s (i : Int) = j9 s ((i + agm (s.drop i) : Nat) : Int) := by
 intro k
 induction k with
 | zero =>
  intro i fu hi hf
  obtain ⟨fu, rfl⟩ : ∃ n, fu = n + 1 := ⟨fu - 1, by omega⟩
  rw [iW, aQ (pV (by omega)), List.drop_eq_nil_of_le (by omega)]; simp [agm, Lib.indexByte]
 | succ k ih =>
  intro i fu hi hf
  obtain ⟨fu, rfl⟩ : ∃ n, fu = n + 1 := ⟨fu - 1, by omega⟩
  have h : i < s.length := by omega
  rw [iW, aL (jC h), aL (inr h), af0 h, List.drop_eq_getElem_cons h]
  by_cases c : s[i].toNat = 47
  ·have e : s[i] = 47 := UInt8.toNat.inj (by simpa using c)
   rw [aQ (by simp; omega), e]; simp [agm, Lib.indexByte]
  ·have e : (s[i] == 47) = false := by simp; intro h; rw [h] at c; simp at c
   rw [aL (by simp; omega), cD (by omega), ih (i + 1) fu (by omega) (by omega)]
   congr 2
   unfold agm
   rw [Lib.indexByte, e]
   simp only [Bool.false_eq_true, if_false]
   rcases adR 47 (s.drop (i + 1)) with ⟨h1, h2⟩ | ⟨m, h1, h2, h3, h4⟩
   ·rw [h1]; simp <;> omega
   ·have h5 : ((m : Int) == -1) = false := by simp
    rw [h1, h5]; simp only [Bool.false_eq_true, if_false]; rw [if_neg (by omega), if_neg (by omega)]; omega
theorem ahn (s : Str) (hs : s.length < 1000000000000000) : mJ s = some (uB (sF s)) := by
 unfold mJ sF
 rw [cZ (aii s zF)]
 cases h : n5 s zF
 ·rw [aL (by rfl)]; rfl
 ·have hl : 7 ≤ s.length := by simp only [n5, Bool.and_eq_true, decide_eq_true_eq] at h; exact h.1
  have e7 : dI s (some 7) none = s.drop 7 := rfl
  simp only [if_true]
  rw [aQ (by rfl), aL (by simp; omega), e7]
  have hj := apa (s.drop 7) (by simp; omega) (s.drop 7).length 0 fuel (by omega) (by rw [iX]; simp; omega)
  rw [show ((0 : Nat) : Int) = 0 from rfl, List.drop_zero, Nat.zero_add] at hj
  rw [hj]
  unfold j9 agm
  rcases adR 47 (s.drop 7) with ⟨h1, h2⟩ | ⟨m, h1, h2, h3, h4⟩
  ·rw [h1, if_pos rfl, if_pos rfl, aL (by simp)]; rfl
  ·have e1 : dI (s.drop 7) none (some (m : Int)) = (s.drop 7).take m := by simp [dI]
   have e2 : dI (s.drop 7) (some ((m + 1 : Nat) : Int)) none = (s.drop 7).drop (m + 1) := by simp only [dI, Int.toNat_natCast]
   have hlt : m < s.length - 7 := by simpa using h2
   rw [h1, if_neg (by omega), if_neg (by omega), Int.toNat_natCast, aQ (by simp; omega), aL (by simp; omega), e1, cZ (zH _ (by simp; omega))]
   cases mL ((s.drop 7).take m)
   ·rw [aL (by rfl)]; simp [uB]
   ·rw [aQ (by rfl), cD (by omega), aL (by simp; omega), e2, cZ (ahq _)]
    cases o8 ((s.drop 7).drop (m + 1))
    ·rw [aL (by rfl)]; simp [uB]
    ·rw [aQ (by rfl), aL (by simp; omega), cZ (aii _ _)]
     cases n5 ((s.drop 7).drop (m + 1)) zF
     ·rw [aQ (by rfl)]
      unfold pI
      rw [aL (by simp; omega), cD (by omega), aL (by simp; omega), e1, e2]
      simp [uB]
     ·rw [aL (by rfl)]; simp [uB]
def mE (s : Str) : Bool := (sF s).isSome || o8 s && !(n5 s zF)
theorem agK (o : Option (Str × Str)) : (uB o).2.2 = o.isSome := by cases o <;> rfl
theorem ahv (s : Str) (hs : s.length < 1000000000000000) : lY s = some (mE s) := by
 unfold lY mE
 rw [cZ (ahn s hs), agK]
 cases (sF s).isSome
 ·rw [aQ (by rfl), cZ (ahq s)]
  cases o8 s
  ·rw [aQ (by rfl)]; rfl
  ·rw [aL (by rfl), cZ (aii _ _)]; rfl
 ·rw [aL (by rfl)]; rfl
end Md
end PX
set_option linter.unusedVariables false
set_option linter.unusedSimpArgs false
namespace PX
open Go
namespace Md
theorem apr (x y : aC) : (x.Key == y.Key && (x.Value == y.Value && true)) = decide (x = y) := by
 cases x; cases y; rw [Bool.eq_iff_iff]; simp
theorem aas {α : Type} {a b : List α} (h : a.length = b.length) : ((a.length : Int) == (b.length : Int)) = true := by rw [h]; simp
theorem aaj {α : Type} {a b : List α} (h : ¬ a.length = b.length) : ((a.length : Int) == (b.length : Int)) = false := by simp; omega
theorem aaF (a b : aF) (ha : a.Props.length < 1000000000000000) : oW a b = some (decide (a = b)) := by
 have hj : a.Props.length = b.Props.length → wO a b = some (decide (a.Props = b.Props)) := by
  intro hl
  exact uL (F := fun fu i => m6 fu a.Props (a.Props.length : Int) i b) hl
   (fun fu => by rw [m6, aQ (pV (by omega))])
   (fun fu i h h' => by rw [m6, aL (jC h), aL (inr h), aL (inr h'), cN h, cN h', cD (by omega), fE, apr]) (by omega)
 unfold oW
 obtain ⟨a1, a2, a3, a4, a5, a6, a7, a8, a9⟩ := a
 obtain ⟨b1, b2, b3, b4, b5, b6, b7, b8, b9⟩ := b
 simp only at hj ha ⊢
 simp only [aF.mk.injEq]
 by_cases hl : a9.length = b9.length
 ·rw [hj hl]
  simp only [fE, eV, aas hl, gZ, aaI, agx]
 ·simp only [fE, eV, aaj hl, jB, aaI, awd]
  symm
  simp; rintro - - - - - - - - rfl; exact hl rfl
theorem aoQ (a b : List aC) (ha : a.length < 1000000000000000) : mF a b = some (decide (a = b)) := by
 unfold mF
 by_cases hl : a.length = b.length
 ·rw [eV, aL (aas hl)]
  exact uL (F := fun fu i => gC fu a b i) hl
   (fun fu => by rw [gC, aQ (pV (by omega))])
   (fun fu i h h' => by rw [gC, aL (jC h), aL (inr h), aL (inr h'), cN h, cN h', cD (by omega), fE, apr]) (by omega)
 ·rw [eV, aQ (aaj hl)]
  symm; simp; rintro rfl; exact hl rfl
theorem afB (a b : aF) (ha : a.Props.length < 1000000000000000) : lS a b = some (decide (a = b)) := by
 unfold lS
 obtain ⟨a1, a2, a3, a4, a5, a6, a7, a8, a9⟩ := a
 obtain ⟨b1, b2, b3, b4, b5, b6, b7, b8, b9⟩ := b
 simp only at ha ⊢
 simp only [aF.mk.injEq, aoQ a9 b9 ha, nB, aaI, agx]
def adq (s : Str) : Bool := rngB 1 16 s.length && s.all sH
theorem am0 (b : UInt8) : sH b = decide ((97 ≤ b.toNat ∧ b.toNat ≤ 122) ∨ (48 ≤ b.toNat ∧ b.toNat ≤ 57) ∨ b.toNat = 45) := by
 rw [Bool.eq_iff_iff]; simp only [sH, abv, aiA, Bool.or_eq_true, Bool.and_eq_true, decide_eq_true_eq, or_assoc]
theorem amq (s : Str) : yY s = some (adq s) := by
 unfold yY adq
 simp only [vH]
 simp only [fE, abR, afh, gZ, jB, eV, acK, ae0, sQ, aU, xH, nB, aao, aaL, aeH, vH, afe, ae3, uW]
 cases hr : rngB 1 16 s.length
 ·rfl
 ·rw [mY] at hr
  rw [gZ, gZ]
  unfold yJ
  refine nR (F := fun fu i => fZ fu s i) (g := fun r => some (r.all sH)) (fun fu => by rw [fZ, aQ (pV (by omega))]; rfl) (fun fu i h ih => ?_) (by omega)
  rw [fZ, aL (jC h), aL (inr h), af0 h, cD (by omega), ih, List.all_cons, vH, am0]
  simp only [fE, abR, afh, gZ, jB, eV, acK, ae0, sQ, aU, xH, nB, aao, aaL, aeH, vH, afe, ae3, aaI]
  simp only [Bool.cond_decide]; (repeat' split) <;> first | rfl | omega
theorem aq2 (s : Str) : sX s = some (adq s) := by
 unfold sX adq
 simp only [vH]
 simp only [fE, abR, afh, gZ, jB, eV, acK, ae0, sQ, aU, xH, nB, aao, aaL, aeH, vH, afe, ae3, uW]
 cases hr : rngB 1 16 s.length
 ·rfl
 ·rw [mY] at hr
  rw [gZ, gZ]
  unfold sO
  refine nR (F := fun fu i => eL fu s i) (g := fun r => some (r.all sH)) (fun fu => by rw [eL, aQ (pV (by omega))]; rfl) (fun fu i h ih => ?_) (by omega)
  rw [eL, aL (jC h), aL (inr h), af0 h, cD (by omega), ih, List.all_cons, vH, am0]
  simp only [fE, abR, afh, gZ, jB, eV, acK, ae0, sQ, aU, xH, nB, aao, aaL, aeH, vH, afe, ae3, aaI]
  simp only [Bool.cond_decide]; (repeat' split) <;> first | rfl | omega
end Md
end PX
set_option linter.unusedVariables false
set_option linter.unusedSimpArgs false
namespace PX
open Go
namespace Md
theorem ahy (x b : Int) : qE x b = some (rngB 0 b x) := by
 unfold qE rngB
 simp only [vH, aaL]
def aDo : Option Str → Str → Bool
 | none, _ => false
 | some k, s => Op.bytesLess s k || s == k
def vR : Option Str → List aC → Int
 | _, [] => 0
 | k, x :: r => cond (adq x.Key) (cond (decide (160 < x.Value.length)) 5 (cond (aDo k x.Key) 16 (vR (some x.Key) r))) 16
def vT (l : List aC) : Int := cond (decide (8 < l.length)) 5 (vR none l)
theorem dJ {α : Type} (b : Bool) (x y : α) : some (cond b x y) = cond b (some x) (some y) := by cases b <;> rfl
theorem adK (l : List aC) : sG l = some (vT l) := by
 unfold sG vT
 rw [dJ]
 by_cases hl : l.length > 8
 ·rw [aL (by simp; omega), aL (by simp; omega)]
 ·rw [aQ (by simp; omega), aQ (by simp; omega)]
  have := aca (n := l.length) (F := fun fu i (_ : Unit) => kI fu l l (l.length : Int) i) (G := fun i _ => some (vR (if i = 0 then none else some (l.getD (i - 1) default).Key) (l.drop i))) (fun _ _ => True)
   (fun fu s _ => by rw [kI, aQ (pV (by omega)), List.drop_length]; rfl)
   (fun fu i s h _ ih => by
    have ih := ih () trivial
    rw [kI, aL (jC h), aL (inr h), cN h, cZ (amq _), cD (by omega), ih, List.drop_eq_getElem_cons h, vR, if_neg (by omega)]
    simp only [dJ, fE, sQ, Nat.add_sub_cancel]
    rw [ajg h]
    congr 1
    have e : decide (160 < (l[i].Value.length : Int)) = decide (160 < l[i].Value.length) := by rw [Bool.eq_iff_iff]; simp; omega
    rw [e]
    congr 1
    by_cases hz : i = 0
    ·subst hz; rw [aQ (by simp), if_pos rfl]; rfl
    ·have e2 : IntKind.wrap .i64 ((i : Int) - 1) = ((i - 1 : Nat) : Int) := by rw [w64 (by omega) (by omega)]; omega
     rw [aL (by simp; omega), e2, aL (inr (by omega)), Int.toNat_natCast, if_neg hz]; rfl)
   (by omega) () trivial
  simpa using this
theorem ai4 (l : List aC) : pZ l = some (vT l) := by
 unfold pZ vT
 rw [dJ]
 by_cases hl : l.length > 8
 ·rw [aL (by simp; omega), aL (by simp; omega)]
 ·rw [aQ (by simp; omega), aQ (by simp; omega)]
  have := aca (n := l.length) (F := fun fu i (_ : Unit) => hX fu l i) (G := fun i _ => some (vR (if i = 0 then none else some (l.getD (i - 1) default).Key) (l.drop i))) (fun _ _ => True)
   (fun fu s _ => by rw [hX, aQ (pV (by omega)), List.drop_length]; rfl)
   (fun fu i s h _ ih => by
    have ih := ih () trivial
    rw [hX, aL (jC h), aL (inr h), cN h, cZ (aq2 _), cD (by omega), ih, List.drop_eq_getElem_cons h, vR, if_neg (by omega)]
    simp only [dJ, fE, sQ, Nat.add_sub_cancel]
    rw [ajg h]
    congr 1
    have e : decide (160 < (l[i].Value.length : Int)) = decide (160 < l[i].Value.length) := by rw [Bool.eq_iff_iff]; simp; omega
    rw [e, aL (inr h)]
    congr 1
    by_cases hz : i = 0
    ·subst hz; rw [aQ (by simp), if_pos rfl]; rfl
    ·have e2 : IntKind.wrap .i64 ((i : Int) - 1) = ((i - 1 : Nat) : Int) := by rw [w64 (by omega) (by omega)]; omega
     rw [aL (by simp; omega), aL (inr h), e2, aL (inr (by omega)), Int.toNat_natCast, if_neg hz]; rfl)
   (by omega) () trivial
  simpa using this
def j5 (m : aF) : Int := cond (xG m.Topic) (cond (decide (256 < (m.Payload.length : Int))) 5 (cond (rngB 0 2 m.Level) (cond (rngB 0 9 m.Priority) (cond (rngB 0 1099511627776 m.Expires)
 (cond (m.From == []) (cond (rngB 0 1099511627776 m.Seq) (vT m.Props) 1) (cond (mL m.From) (cond (rngB 0 1099511627776 m.Seq) (vT m.Props) 1) 11)) 1) 1) 14)) 12
theorem aem (m : aF) (hm : m.From.length < 1000000000000000) : jI m = some (j5 m) := by
 simp only [jI, j5, dJ, apo, ahy, af4 _ hm, adK, fE, abR, afh, gZ, jB, eV, acK, ae0, sQ, aU, xH, nB, aao, aaL, aeH, vH, afe, ae3]
theorem ai2 (m : aF) (hm : m.From.length < 1000000000000000) : jS m = some (j5 m) := by
 simp only [jS, nC, mR, kC, j5, dJ, ais, zH _ hm, ai4, fE, abR, afh, gZ, jB, eV, acK, ae0, sQ, aU, xH, nB, aao, aaL, aeH, vH, afe, ae3, uW]
end Md
end PX
