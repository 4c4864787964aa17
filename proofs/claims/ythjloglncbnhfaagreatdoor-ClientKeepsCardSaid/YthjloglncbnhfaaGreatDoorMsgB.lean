import Derived.Test.YthjloglncbnhfaaGreatDoorMod
import Derived.Test.YthjloglncbnhfaaGreatDoorPXd
set_option linter.unusedVariables false
set_option linter.unusedSimpArgs false
namespace PX
open Go
namespace Md
def aaW (b : UInt8) : Bool := decide (97 ≤ b.toNat) && decide (b.toNat ≤ 122)
def ag4 (b : UInt8) : Bool := decide (48 ≤ b.toNat) && decide (b.toNat ≤ 57)
def rY (b : UInt8) : Bool := aaW b || ag4 b || decide (b.toNat = 45)
def sY (s : Str) : Bool := decide (1 ≤ s.length) && decide (s.length ≤ 16) && aaW (s.getD 0 0) && s.all rY
theorem aoz {s : Str} {i : Nat} (h : i < s.length) (f : UInt8 → Bool) : (s.drop i).all f = (f s[i] && (s.drop (i + 1)).all f) := by
 rw [List.drop_eq_getElem_cons h, List.all_cons]
theorem auX (k4 : Str → Nat → Option Bool) (i v w : Nat) (s : Str) :
  (cond (decide ((v : Int) ≥ 97)) (pH k4 (i : Int) (v : Int) (decide ((v : Int) ≤ 122)) s (i + w)) (pH k4 (i : Int) (v : Int) false s (i + w))) =
   if 97 ≤ v ∧ v ≤ 122 then k4 s (i + w) else if i = 0 then some false else if v = 45 ∨ (48 ≤ v ∧ v ≤ 57) then k4 s (i + w) else some false := by
 unfold pH
 by_cases c1 : 97 ≤ v
 ·rw [aM (by simp; omega)]
  by_cases c2 : v ≤ 122
  ·rw [if_pos ⟨c1, c2⟩, aS (by simp; omega)]
  ·rw [if_neg (by omega), aM (by simp; omega)]
   by_cases c3 : i = 0
   ·rw [if_pos c3, aM (by simpa using c3)]
   ·rw [if_neg c3, aS (by simpa using c3), if_neg (by omega), aM (by simp; omega), aS (by simp; omega), aM (by simp; omega)]
 ·rw [aS (by simp; omega), if_neg (by omega), aM (by rfl)]
  by_cases c3 : i = 0
  ·rw [if_pos c3, aM (by simpa using c3)]
  ·rw [if_neg c3, aS (by simpa using c3)]
   by_cases c4 : v = 45
   ·rw [if_pos (.inl c4), aS (by simp; omega)]
   ·rw [aM (by simp; omega)]
    by_cases c5 : v < 48
    ·rw [if_neg (by omega), aM (by simp; omega)]
    ·rw [aS (by simp; omega)]
     by_cases c6 : v > 57
     ·rw [if_neg (by omega), aM (by simp; omega)]
     ·rw [if_pos (by omega), aS (by simp; omega)]
theorem auu (s : Str) (hs : 0 < s.length) : ∀ (k i fu : Nat), s.length - i ≤ k → k < fu → kS fu s i = some ((s.drop i).all rY && (decide (i ≠ 0) || aaW (s.getD 0 0))) := by
 intro k
 induction k with
 | zero =>
  intro i fu hi hf
  obtain ⟨fu, rfl⟩ : ∃ n, fu = n + 1 := ⟨fu - 1, by omega⟩
  rw [kS, aS (by simp; omega), List.drop_eq_nil_of_le (by omega)]
  simp; omega
 | succ k ih =>
  intro i fu hi hf
  obtain ⟨fu, rfl⟩ : ∃ n, fu = n + 1 := ⟨fu - 1, by omega⟩
  by_cases h : i < s.length
  ·rw [kS, aM (by simpa using h), auX, aoz h]
   by_cases lo : s[i].toNat < 128
   ·rw [akp h lo]
    simp only
    have h0 : i = 0 → s.getD 0 0 = s[i] := by rintro rfl; rw [aiC hs]
    by_cases c1 : 97 ≤ s[i].toNat ∧ s[i].toNat ≤ 122
    ·have e1 : aaW s[i] = true := by simp [aaW, c1]
     rw [if_pos c1, ih (i + 1) fu (by omega) (by omega)]
     by_cases hz : i = 0
     ·rw [h0 hz, e1]; simp [rY, e1]
     ·simp [rY, e1, hz]
    ·have e1 : aaW s[i] = false := by simp [aaW]; omega
     rw [if_neg c1]
     by_cases hz : i = 0
     ·rw [if_pos hz, h0 hz, e1]; simp [hz]
     ·rw [if_neg hz]
      by_cases c2 : s[i].toNat = 45 ∨ (48 ≤ s[i].toNat ∧ s[i].toNat ≤ 57)
      ·rw [if_pos c2, ih (i + 1) fu (by omega) (by omega)]
       have e2 : rY s[i] = true := by
        simp only [rY, ag4, Bool.or_eq_true, Bool.and_eq_true, decide_eq_true_eq]; omega
       simp [e2, hz]
      ·rw [if_neg c2]
       have e2 : rY s[i] = false := by
        simp only [rY, e1, ag4, Bool.false_or, Bool.or_eq_false_iff, Bool.and_eq_false_iff, decide_eq_false_iff_not]; omega
       simp [e2]
   ·have hd := ah8 h (by omega)
    have e2 : rY s[i] = false := by
     simp only [rY, aaW, ag4, Bool.or_eq_false_iff, Bool.and_eq_false_iff, decide_eq_false_iff_not]; omega
    rw [if_neg (by omega)]
    by_cases hz : i = 0
    ·rw [if_pos hz]; simp [e2]
    ·rw [if_neg hz, if_neg (by omega)]; simp [e2]
  ·rw [kS, aS (by simpa using h), List.drop_eq_nil_of_le (by omega)]
   simp; omega
theorem afo (s : Str) (hl : s.length < 1000000000000000) : pU s = some (sY s) := by
 unfold pU sY
 by_cases c1 : s.length < 1
 ·rw [aM (by simp; omega)]; simp; omega
 ·rw [aS (by simp; omega)]
  by_cases c2 : s.length > 16
  ·rw [aM (by simp; omega)]; simp; omega
  ·rw [aS (by simp; omega)]
   unfold yK
   rw [auu s (by omega) s.length 0 fuel (by omega) (by rw [m6]; omega)]
   have e1 : decide (1 ≤ s.length) = true := by simp; omega
   have e2 : decide (s.length ≤ 16) = true := by simp; omega
   simp [e1, e2, Bool.and_comm]
end Md
end PX
set_option linter.unusedVariables false
set_option linter.unusedSimpArgs false
namespace PX
open Go
namespace Md
theorem drop_nil {α : Type} (l : List α) (n : Nat) (h : l.length ≤ n) : l.drop n = [] := List.drop_eq_nil_of_le h
theorem afb {s : Str} {i : Nat} (h : i < s.length) : List.getD s (Int.toNat (i : Int)) 0 = s[i] := by rw [Int.toNat_natCast, aiC h]
theorem anW (b : UInt8) : mU (UInt8.toNat b : Int) = some (aaW b) := by
 unfold mU aaW
 by_cases c : 97 ≤ b.toNat
 ·rw [aM (by simp; omega)]
  have e : decide (97 ≤ b.toNat) = true := by simpa using c
  rw [e, Bool.true_and]; congr 1; simp <;> omega
 ·rw [aS (by simp; omega)]
  have e : decide (97 ≤ b.toNat) = false := by simpa using c
  rw [e, Bool.false_and]
theorem asj (b : UInt8) : pO (UInt8.toNat b : Int) = some (ag4 b) := by
 unfold pO ag4
 by_cases c : 48 ≤ b.toNat
 ·rw [aM (by simp; omega)]
  have e : decide (48 ≤ b.toNat) = true := by simpa using c
  rw [e, Bool.true_and]; congr 1; simp <;> omega
 ·rw [aS (by simp; omega)]
  have e : decide (48 ≤ b.toNat) = false := by simpa using c
  rw [e, Bool.false_and]
theorem aqd (s : Str) (hl : s.length < 1000000000000000) : ∀ (k i fu : Nat), i + k = s.length → k < fu → fR fu s (i : Int) = some ((s.drop i).all rY) := by
 intro k
 induction k with
 | zero =>
  intro i fu hi hf
  obtain ⟨fu, rfl⟩ : ∃ n, fu = n + 1 := ⟨fu - 1, by omega⟩
  rw [fR, aS (l5 (by omega)), List.drop_eq_nil_of_le (by omega)]; rfl
 | succ k ih =>
  intro i fu hi hf
  obtain ⟨fu, rfl⟩ : ∃ n, fu = n + 1 := ⟨fu - 1, by omega⟩
  have h : i < s.length := by omega
  rw [fR, aM (gX h), aM (inr h), afb h, cN (anW _), aoz h, bN (by omega), ih (i + 1) fu (by omega) (by omega)]
  unfold rY
  cases c1 : aaW s[i]
  ·rw [aM (by rfl), aM (inr h), cN (asj _)]
   cases c2 : ag4 s[i]
   ·rw [aM (by rfl), aM (inr h)]
    by_cases c3 : s[i].toNat = 45
    ·rw [aS (by simp; omega)]; simp [c3]
    ·rw [aM (by simp; omega)]; simp [c3]
   ·rw [aS (by rfl)]; simp
  ·rw [aS (by rfl)]; simp
theorem yB (s : Str) (hl : s.length < 1000000000000000) : iH s = some (sY s) := by
 unfold iH sY
 by_cases c1 : s.length < 1
 ·rw [aM (by simp; omega)]; simp; omega
 ·rw [aS (by simp; omega)]
  by_cases c2 : s.length > 16
  ·rw [aM (by simp; omega)]; simp; omega
  ·have e1 : decide (1 ≤ s.length) = true := by simp; omega
   have e2 : decide (s.length ≤ 16) = true := by simp; omega
   rw [aS (by simp; omega), aM (by simp; omega), cN (anW _), e1, e2]
   have e3 : List.getD s (Int.toNat 0) 0 = s.getD 0 0 := rfl
   rw [e3]
   cases c3 : aaW (s.getD 0 0)
   ·rw [aM (by rfl)]; simp
   ·rw [aS (by rfl)]
    unfold rG
    have := aqd s hl s.length 0 fuel (by omega) (by rw [m6]; omega)
    rw [show ((0 : Nat) : Int) = 0 from rfl] at this
    rw [this]; simp
theorem avc (s : Str) (hl : s.length < 1000000000000000) (c : UInt8) : ∀ (k i fu : Nat), i + k = s.length → k < fu → jW fu s (c.toNat : Int) (i : Int) = some ((s.drop i).contains c) := by
 intro k
 induction k with
 | zero =>
  intro i fu hi hf
  obtain ⟨fu, rfl⟩ : ∃ n, fu = n + 1 := ⟨fu - 1, by omega⟩
  rw [jW, aS (l5 (by omega)), List.drop_eq_nil_of_le (by omega)]; rfl
 | succ k ih =>
  intro i fu hi hf
  obtain ⟨fu, rfl⟩ : ∃ n, fu = n + 1 := ⟨fu - 1, by omega⟩
  have h : i < s.length := by omega
  rw [jW, aM (gX h), aM (inr h), afb h, bN (by omega), ih (i + 1) fu (by omega) (by omega), List.drop_eq_getElem_cons h, List.contains_cons]
  by_cases e : s[i] = c
  ·rw [aM (by simp [e])]; simp [e]
  ·have e2 : ¬ s[i].toNat = c.toNat := fun h => e (UInt8.toNat.inj h)
   rw [aS (by simp; omega)]
   have e3 : (c == s[i]) = false := by simp; exact fun h => e h.symm
   simp [e3]
theorem ahF (s : Str) (hl : s.length < 1000000000000000) (c : UInt8) {n : Int} (hn : n = (c.toNat : Int)) : jH s n = some (s.contains c) := by
 subst hn
 have := avc s hl c s.length 0 fuel (by omega) (by rw [m6]; omega)
 simpa [jH] using this
def sizedB (s : Str) : Bool := decide (1 ≤ s.length) && decide (s.length ≤ 64) && !(s.contains 0) && decide (s.count 47 + 1 ≤ 8)
theorem atO (s : Str) : ∀ (k i fu c : Nat), s.length - i ≤ k → k < fu → c + k < 1000000000 → jY fu (c : Int) s i = some (!((s.drop i).contains 0) && decide (c + (s.drop i).count 47 ≤ 8)) := by
 intro k
 induction k with
 | zero =>
  intro i fu c hi hf hc
  obtain ⟨fu, rfl⟩ : ∃ n, fu = n + 1 := ⟨fu - 1, by omega⟩
  have ec : decide ((c : Int) ≤ 8) = decide (c ≤ 8) := by rw [decide_eq_decide]; omega
  rw [jY, aS (by simp; omega), List.drop_eq_nil_of_le (by omega), ec]; simp <;> exact decide_eq_decide.2 Iff.rfl
 | succ k ih =>
  intro i fu c hi hf hc
  obtain ⟨fu, rfl⟩ : ∃ n, fu = n + 1 := ⟨fu - 1, by omega⟩
  by_cases h : i < s.length
  ·rw [jY, aM (by simpa using h)]
   by_cases lo : s[i].toNat < 128
   ·rw [akp h lo, List.drop_eq_getElem_cons h, List.contains_cons, List.count_cons]
    simp only
    by_cases c0 : s[i].toNat = 0
    ·have e : s[i] = 0 := UInt8.toNat.inj (by simpa using c0)
     rw [aM (by simp; omega)]; simp [e]
    ·have e : (0 == s[i]) = false := by simp; intro h; rw [← h] at c0; simp at c0
     rw [aS (by simp; omega), e, Bool.false_or]
     by_cases c1 : s[i].toNat = 47
     ·have e1 : s[i] = 47 := UInt8.toNat.inj (by simpa using c1)
      rw [aM (by simp; omega), bN (by omega), ih (i + 1) fu (c + 1) (by omega) (by omega) (by omega)]
      simp only [e1, beq_self_eq_true, if_true]
      rw [show c + 1 + List.count 47 (List.drop (i + 1) s) = c + (List.count 47 (List.drop (i + 1) s) + 1) by omega]
     ·have e1 : (s[i] == 47) = false := by simp; intro h; rw [h] at c1; simp at c1
      rw [aS (by simp; omega), ih (i + 1) fu c (by omega) (by omega) (by omega)]
      simp [e1]
   ·obtain ⟨t, ht, hh⟩ := ajB h (by omega)
    have hd := ah8 h (by omega)
    rw [aS (by simp; omega), aS (by simp; omega), ih (i + (dec s i).2) fu c (by omega) (by omega) (by omega), ht, uX hh (by decide), ap4 hh (by decide)]
  ·have ec : decide ((c : Int) ≤ 8) = decide (c ≤ 8) := by rw [decide_eq_decide]; omega
   rw [jY, aS (by simpa using h), List.drop_eq_nil_of_le (by omega), ec]; simp <;> exact decide_eq_decide.2 Iff.rfl
theorem anQ (s : Str) : vI s = some (sizedB s) := by
 unfold vI sizedB
 by_cases c1 : s.length < 1
 ·rw [aM (by simp; omega)]; simp; omega
 ·rw [aS (by simp; omega)]
  by_cases c2 : s.length > 64
  ·rw [aM (by simp; omega)]; simp; omega
  ·have e1 : decide (1 ≤ s.length) = true := by simp; omega
   have e2 : decide (s.length ≤ 64) = true := by simp; omega
   rw [aS (by simp; omega), e1, e2]
   unfold xF
   have := atO s s.length 0 fuel 1 (by omega) (by rw [m6]; omega) (by omega)
   rw [show ((1 : Nat) : Int) = 1 from rfl] at this
   rw [this]; simp [Nat.add_comm]
def cS : Str → List Str
 | [] => [[]]
 | b :: r => if b = 47 then [] :: cS r else match cS r with | [] => [[b]] | h :: t => (b :: h) :: t
theorem aax (s : Str) : cS s ≠ [] := by
 cases s with
 | nil => simp [cS]
 | cons b r => simp only [cS]; split <;> (try simp); split <;> simp
theorem abk : ∀ s : Str, (cS s).length = s.count 47 + 1
 | [] => by simp [cS]
 | b :: r => by
  have ih := abk r
  simp only [cS, List.count_cons]
  by_cases h : b = 47
  ·simp [h, ih]
  ·rw [if_neg h]
   have hb : (b == 47) = false := by simpa using h
   cases hr : cS r with
   | nil => exact absurd hr (aax r)
   | cons x t => rw [hr] at ih; simp [hb] at ih ⊢; omega
def aeU (p : Str) : List Str → List Str
 | [] => [p]
 | h :: t => (p ++ h) :: t
theorem aql (p r : Str) : aeU p (cS (47 :: r)) = p :: cS r := by simp [cS, aeU]
theorem aqF (p r : Str) {b : UInt8} (h : b ≠ 47) : aeU p (cS (b :: r)) = aeU (p ++ [b]) (cS r) := by
 simp only [cS, if_neg h]
 cases hr : cS r with
 | nil => exact absurd hr (aax r)
 | cons x t => simp [aeU]
theorem atv (s : Str) {a i : Nat} (h1 : a ≤ i) (h2 : i ≤ s.length) : bQ s (some (a : Int)) (some (i : Int)) = (s.take i).drop a := by simp [bQ]
theorem aso (s : Str) {a i : Nat} (h1 : a ≤ i) (h2 : i < s.length) : (s.take i).drop a ++ [s[i]] = (s.take (i + 1)).drop a := by
 rw [← alV h2, List.drop_append_of_le_length (by simp; omega)]
theorem an3 (s : Str) (hl : s.length < 1000000) : ∀ (k i fu a : Nat) (acc : List Str), i + k = s.length → k < fu → a ≤ i → acc.length ≤ i →
  gB fu s (a : Int) (i : Int) acc = some (acc ++ aeU ((s.take i).drop a) (cS (s.drop i))) := by
 intro k
 induction k with
 | zero =>
  intro i fu a acc hi hf ha hacc
  obtain ⟨fu, rfl⟩ : ∃ n, fu = n + 1 := ⟨fu - 1, by omega⟩
  have e : bQ s (some (a : Int)) none = (s.take i).drop a := by simp [bQ, List.take_of_length_le (show s.length ≤ i by omega)]
  rw [gB, aS (l5 (by omega)), aM (by simp; omega), e, aM (by simp; omega), drop_nil s i (by omega)]
  simp [cS, aeU]
 | succ k ih =>
  intro i fu a acc hi hf ha hacc
  obtain ⟨fu, rfl⟩ : ∃ n, fu = n + 1 := ⟨fu - 1, by omega⟩
  have h : i < s.length := by omega
  rw [gB, aM (gX h), aM (inr h), afb h, bN (by omega), List.drop_eq_getElem_cons (l := s) h]
  by_cases c : s[i].toNat = 47
  ·have e : s[i] = 47 := UInt8.toNat.inj (by simpa using c)
   rw [aM (by simp; omega), aM (by simp; omega), aM (by simp; omega), atv s ha (by omega), aM (by simp; omega), ih (i + 1) fu (i + 1) _ (by omega) (by omega) (by omega) (by simp; omega), e, aql]
   rw [drop_nil (s.take (i + 1)) _ (by simp; omega)]
   cases hr : cS (s.drop (i + 1)) with
   | nil => exact absurd hr (aax _)
   | cons x t => simp [aeU]
  ·have e : s[i] ≠ 47 := fun h => c (by rw [h]; rfl)
   rw [aS (by simp; omega), ih (i + 1) fu a acc (by omega) (by omega) (by omega) (by omega), aqF _ _ e, aso s ha h]
theorem agB (s : Str) (hl : s.length < 1000000) : oG s = some (cS s) := by
 have := an3 s hl s.length 0 fuel 0 [] (by omega) (by rw [m6]; omega) (by omega) (by simp)
 have e : aeU [] (cS s) = cS s := by
  cases hr : cS s with
  | nil => exact absurd hr (aax _)
  | cons x t => simp [aeU]
 simp only [List.drop_zero, List.take_zero, List.drop_nil, List.nil_append, e] at this
 exact this
theorem ahq (s : Str) : mY s = some (sizedB s) := by
 unfold mY sizedB
 by_cases c1 : s.length < 1
 ·rw [aS (by simp; omega)]; simp; omega
 ·rw [aM (by simp; omega)]
  by_cases c2 : s.length > 64
  ·rw [aS (by simp; omega)]; simp; omega
  ·have e1 : decide (1 ≤ s.length) = true := by simp; omega
   have e2 : decide (s.length ≤ 64) = true := by simp; omega
   rw [aM (by simp; omega), cN (ahF s (by omega) 0 (n := 0) rfl), e1, e2, Bool.true_and, Bool.true_and]
   cases s.contains 0
   ·rw [aM (by rfl), cN (agB s (by omega)), abk]
    simp; omega
   ·rw [aS (by rfl)]; rfl
def afM (s : Str) : Bool := sizedB s && !(s.contains 43) && !(s.contains 35)
theorem atU (s : Str) : ∀ (k i fu : Nat), s.length - i ≤ k → k < fu → lU fu s i = some (!((s.drop i).contains 43) && !((s.drop i).contains 35)) := by
 intro k
 induction k with
 | zero =>
  intro i fu hi hf
  obtain ⟨fu, rfl⟩ : ∃ n, fu = n + 1 := ⟨fu - 1, by omega⟩
  rw [lU, aS (by simp; omega), List.drop_eq_nil_of_le (by omega)]; rfl
 | succ k ih =>
  intro i fu hi hf
  obtain ⟨fu, rfl⟩ : ∃ n, fu = n + 1 := ⟨fu - 1, by omega⟩
  by_cases h : i < s.length
  ·rw [lU, aM (by simpa using h)]
   by_cases lo : s[i].toNat < 128
   ·rw [akp h lo, List.drop_eq_getElem_cons h, List.contains_cons, List.contains_cons]
    simp only
    by_cases c0 : s[i].toNat = 43
    ·have e : s[i] = 43 := UInt8.toNat.inj (by simpa using c0)
     rw [aM (by simp; omega)]; simp [e]
    ·have e : (43 == s[i]) = false := by simp; intro h; rw [← h] at c0; simp at c0
     rw [aS (by simp; omega), e, Bool.false_or]
     by_cases c1 : s[i].toNat = 35
     ·have e1 : s[i] = 35 := UInt8.toNat.inj (by simpa using c1)
      rw [aM (by simp; omega)]; simp [e1]
     ·have e1 : (35 == s[i]) = false := by simp; intro h; rw [← h] at c1; simp at c1
      rw [aS (by simp; omega), ih (i + 1) fu (by omega) (by omega), e1, Bool.false_or]
   ·obtain ⟨t, ht, hh⟩ := ajB h (by omega)
    have hd := ah8 h (by omega)
    rw [aS (by simp; omega), aS (by simp; omega), ih (i + (dec s i).2) fu (by omega) (by omega), ht, uX hh (by decide), uX hh (by decide)]
  ·rw [lU, aS (by simpa using h), List.drop_eq_nil_of_le (by omega)]; rfl
theorem acw {s : Str} (h : sizedB s = true) : 1 ≤ s.length ∧ s.length ≤ 64 := by
 simp only [sizedB, Bool.and_eq_true, decide_eq_true_eq] at h
 exact ⟨h.1.1.1, h.1.1.2⟩
theorem asP (s : Str) : yD s = some (afM s) := by
 unfold yD afM
 rw [cN (anQ s)]
 cases h : sizedB s
 ·rw [aM (by rfl)]; rfl
 ·have := acw h
  rw [aS (by rfl), atU s s.length 0 fuel (by omega) (by rw [m6]; omega)]
  simp
theorem an1 (s : Str) : pN s = some (afM s) := by
 unfold pN afM
 rw [cN (ahq s)]
 cases h : sizedB s
 ·rw [aS (by rfl)]; rfl
 ·have := acw h
  rw [aM (by rfl), cN (ahF s (by omega) 43 (n := 43) rfl)]
  cases s.contains 43
  ·rw [aM (by rfl), cN (ahF s (by omega) 35 (n := 35) rfl)]; rfl
  ·rw [aS (by rfl)]; rfl
end Md
end PX
set_option linter.unusedVariables false
set_option linter.unusedSimpArgs false
namespace PX
open Go
namespace Md
theorem adq (c : UInt8) : ∀ l : Str, (Lib.indexByte l c = -1 ∧ l.count c = 0) ∨ ∃ m : Nat, Lib.indexByte l c = m ∧ m < l.length ∧ l = l.take m ++ c :: l.drop (m + 1) ∧ (l.take m).count c = 0
 | [] => .inl (by simp [Lib.indexByte])
 | b :: l => by
  rw [Lib.indexByte]
  by_cases h : b = c
  ·subst h
   exact .inr ⟨0, by simp, by simp, by simp, by simp⟩
  ·have hb : (b == c) = false := by simpa using h
   rw [hb]
   simp only [Bool.false_eq_true, if_false]
   rcases adq c l with ⟨h1, h2⟩ | ⟨m, h1, h2, h3, h4⟩
   ·left
    rw [h1]
    exact ⟨by simp, by rw [List.count_cons, hb, h2]; simp⟩
   ·right
    have : ((m : Int) == -1) = false := by simp <;> omega
    refine ⟨m + 1, by rw [h1, this]; simp, by simp; omega, ?_, by rw [List.take_succ_cons, List.count_cons, hb, h4]; simp⟩
    simp only [List.take_succ_cons, List.drop_succ_cons, List.cons_append]
    rw [← h3]
theorem ajb : ∀ {l : Str}, l.count 47 = 0 → cS l = [l]
 | [], _ => rfl
 | b :: l, h => by
  rw [List.count_cons] at h
  have h1 : l.count 47 = 0 := by omega
  have h2 : b ≠ 47 := by rintro rfl; simp at h
  simp only [cS, if_neg h2, ajb h1]
theorem aje : ∀ {p r : Str}, p.count 47 = 0 → cS (p ++ 47 :: r) = p :: cS r
 | [], r, _ => by simp [cS]
 | b :: p, r, h => by
  rw [List.count_cons] at h
  have h1 : p.count 47 = 0 := by omega
  have h2 : b ≠ 47 := by rintro rfl; simp at h
  simp only [List.cons_append, cS, if_neg h2, aje h1]
theorem aq4 (s : Str) (hs : s ≠ [47]) : nC s ([47] : Str) = some (Lib.indexByte s 47) := by
 unfold nC j6
 have : (([47] : Str) == s) = false := by simp; exact fun h => hs h.symm
 rw [aS (by rfl), aS this, aM (by rfl), aM (by rfl)]
 rfl
theorem aiZ (s : Str) : nC s ([47] : Str) = some (Lib.indexByte s 47) := by
 by_cases h : s = [47]
 ·subst h; rfl
 ·exact aq4 s h
theorem atL (N : Nat) (hN : N < 100000) : ∀ (k i fu : Nat) (s : Str) (acc : List Str), i + k = N → k < fu → s.count 47 = k → s.length < 1000000 → acc.length = i →
  iK fu s ([47] : Str) 0 (N : Int) (i : Int) (acc ++ List.replicate (k + 1) default) = some (acc ++ cS s) := by
 intro k
 induction k with
 | zero =>
  intro i fu s acc hi hf hc hs ha
  obtain ⟨fu, rfl⟩ : ∃ n, fu = n + 1 := ⟨fu - 1, by omega⟩
  rw [iK, aS (l5 (by omega))]
  unfold mQ
  have e : (acc ++ List.replicate (0 + 1) (default : Str)).set i s = acc ++ [s] := by
   rw [List.set_append_right _ _ (by omega)]; simp [ha]
  rw [Int.toNat_natCast, e, aM (by simp; omega), bN (by omega), aM (by simp; omega), ajb hc, Int.toNat_natCast]
  rw [Nat.sub_zero, List.drop_zero, List.take_of_length_le (by simp; omega)]
 | succ k ih =>
  intro i fu s acc hi hf hc hs ha
  obtain ⟨fu, rfl⟩ : ∃ n, fu = n + 1 := ⟨fu - 1, by omega⟩
  rw [iK, aM (gX (by omega)), cN (aiZ s)]
  rcases adq 47 s with ⟨h1, h2⟩ | ⟨m, h1, h2, h3, h4⟩
  ·omega
  ·have e1 : IntKind.wrap .i64 ((m : Int) + 0) = (m : Int) := by rw [w64 (by omega) (by omega)]; omega
   have e2 : IntKind.wrap .i64 ((m : Int) + (List.length ([47] : Str) : Int)) = ((m + 1 : Nat) : Int) := bN (by omega)
   have e3 : bQ s none (some (m : Int)) = s.take m := by simp [bQ]
   have e4 : bQ s (some ((m + 1 : Nat) : Int)) none = s.drop (m + 1) := by simp [bQ]
   have hcount : (s.drop (m + 1)).count 47 = k := by
    have := congrArg (List.count 47) h3
    rw [List.count_append, h4, List.count_cons_self, hc] at this
    omega
   have hset : (acc ++ List.replicate (k + 1 + 1) (default : Str)).set i (s.take m) = (acc ++ [s.take m]) ++ List.replicate (k + 1) default := by
    rw [List.set_append_right _ _ (by omega), List.replicate_succ]; simp [ha]
   rw [h1, aS (by simp <;> omega), e1, e2, e3, e4, aM (by simp; omega), aM (by simp; omega), aM (by simp; omega), bN (by omega), Int.toNat_natCast, hset,
    ih (i + 1) fu (s.drop (m + 1)) (acc ++ [s.take m]) (by omega) (by omega) hcount (by simp; omega) (by simp; omega)]
   have : cS s = s.take m :: cS (s.drop (m + 1)) := by
    conv => lhs; rw [h3]
    exact aje h4
   rw [this]; simp
theorem aro (s : Str) (hs : s.length < 100000) : wG s = some (cS s) := by
 have hc : s.count 47 ≤ s.length := List.count_le_length
 have hsplit : vA s ([47] : Str) = some (cS s) := by
  unfold vA uP
  have h1 : vD s ([47] : Str) = some ((s.count 47 : Nat) : Int) := by
   unfold vD
   rw [aS (by rfl), aM (by rfl), aM (by rfl)]
   rfl
  rw [aS (by rfl), aS (by rfl), aM (by rfl), cN h1]
  unfold nI
  have e1 : IntKind.wrap .i64 (((s.count 47 : Nat) : Int) + 1) = ((s.count 47 + 1 : Nat) : Int) := bN (by omega)
  have e2 : IntKind.wrap .i64 ((s.length : Int) + 1) = ((s.length + 1 : Nat) : Int) := bN (by omega)
  rw [e1, e2]
  have e3 : (if ((s.length + 1 : Nat) : Int) < ((s.count 47 + 1 : Nat) : Int) then ((s.length + 1 : Nat) : Int) else ((s.count 47 + 1 : Nat) : Int)) = ((s.count 47 + 1 : Nat) : Int) := by rw [if_neg (by omega)]
  have e4 : IntKind.wrap .i64 (((s.count 47 + 1 : Nat) : Int) - 1) = ((s.count 47 : Nat) : Int) := by rw [w64 (by omega) (by omega)]; omega
  simp only [e3]
  rw [aM (by simp; omega), e4, Int.toNat_natCast]
  have := atL (s.count 47) (by omega) (s.count 47) 0 fuel s [] (by omega) (by rw [m6]; omega) rfl (by omega) rfl
  simp only [List.nil_append] at this
  rw [show ((0 : Nat) : Int) = 0 from rfl] at this
  rw [this]; rfl
 unfold wG
 rw [cN hsplit]
def aid (l : Str) (one last : Bool) : Bool := (l.contains 43 && !one) || (l.contains 35 && (!one || !last))
def acB : List Str → Bool
 | [] => true
 | lv :: r => !(aid lv (decide (lv.length = 1)) r.isEmpty) && acB r
def vM (s : Str) : Bool := sizedB s && acB (cS s)
theorem aty (k6 : (List Str) → Bool → (List Str) → Int → Int → Option Bool) (x3 x15 : List Str) (x4 : Bool) (x16 : Int) (lv : Str) (i : Nat) (hi : i < x3.length) (hx : x3.length < 1000000) :
  ∀ (k j fu : Nat), lv.length - j ≤ k → k < fu → gL fu k6 x3 x4 (i : Int) lv x15 x16 (i : Int) lv j =
   if aid (lv.drop j) (decide (lv.length = 1)) (decide (i + 1 = x3.length)) = true then some false else k6 x3 x4 x15 x16 ((i + 1 : Nat) : Int) := by
 intro k
 have hw : IntKind.wrap .i64 ((x3.length : Int) - 1) = ((x3.length - 1 : Nat) : Int) := by rw [w64 (by omega) (by omega)]; omega
 induction k with
 | zero =>
  intro j fu hj hf
  obtain ⟨fu, rfl⟩ : ∃ n, fu = n + 1 := ⟨fu - 1, by omega⟩
  rw [gL, aS (by simp; omega), List.drop_eq_nil_of_le (by omega), bN (by omega)]; simp [aid]
 | succ k ih =>
  intro j fu hj hf
  obtain ⟨fu, rfl⟩ : ∃ n, fu = n + 1 := ⟨fu - 1, by omega⟩
  by_cases h : j < lv.length
  ·rw [gL, aM (by simpa using h), hw]
   by_cases lo : lv[j].toNat < 128
   ·rw [akp h lo]
    simp only
    rw [ih (j + 1) fu (by omega) (by omega), List.drop_eq_getElem_cons h]
    have ev : (!((lv.length : Int) == 1)) = !(decide (lv.length = 1)) := by rw [Bool.eq_iff_iff]; simp; omega
    have el : decide ((i : Int) < ((x3.length - 1 : Nat) : Int)) = !(decide (i + 1 = x3.length)) := by rw [Bool.eq_iff_iff]; simp; omega
    rw [ev, el]
    unfold aid
    rw [List.contains_cons, List.contains_cons]
    by_cases c0 : lv[j].toNat = 43
    ·have e : lv[j] = 43 := UInt8.toNat.inj (by simpa using c0)
     rw [aM (by simp; omega), e]
     cases hd1 : decide (lv.length = 1)
     ·rw [aM (by rfl)]; simp
     ·rw [aS (by rfl), aS (by decide)]; simp
    ·have e : (43 == lv[j]) = false := by simp; intro h; rw [← h] at c0; simp at c0
     rw [aS (by simp; omega), e, Bool.false_or]
     by_cases c1 : lv[j].toNat = 35
     ·have e1 : lv[j] = 35 := UInt8.toNat.inj (by simpa using c1)
      rw [aM (by simp; omega), e1]
      cases decide (lv.length = 1) <;> cases decide (i + 1 = x3.length) <;> simp
     ·have e1 : (35 == lv[j]) = false := by simp; intro h; rw [← h] at c1; simp at c1
      rw [aS (by simp; omega), e1, Bool.false_or]
   ·obtain ⟨t, ht, hh⟩ := ajB h (by omega)
    have hd := ah8 h (by omega)
    rw [aS (by simp; omega), aS (by simp; omega), ih (j + (dec lv j).2) fu (by omega) (by omega), ht]
    unfold aid
    rw [uX hh (by decide), uX hh (by decide)]
  ·rw [gL, aS (by simpa using h), List.drop_eq_nil_of_le (by omega), bN (by omega)]; simp [aid]
theorem asQ (l : List Str) (hl : l.length < 1000000) (hlv : ∀ x ∈ l, x.length < 1000000) : ∀ (k i fu : Nat), i + k = l.length → k < fu → mL fu l true l (l.length : Int) (i : Int) = some (acB (l.drop i)) := by
 intro k
 induction k with
 | zero =>
  intro i fu hi hf
  obtain ⟨fu, rfl⟩ : ∃ n, fu = n + 1 := ⟨fu - 1, by omega⟩
  rw [mL, aS (l5 (by omega)), List.drop_eq_nil_of_le (by omega)]; rfl
 | succ k ih =>
  intro i fu hi hf
  obtain ⟨fu, rfl⟩ : ∃ n, fu = n + 1 := ⟨fu - 1, by omega⟩
  have h : i < l.length := by omega
  have hx := hlv _ (List.getElem_mem h)
  rw [mL, aM (gX h), aM (inr h), cB h, aty _ l l true _ l[i] i h hl l[i].length 0 fuel (by omega) (by rw [m6]; omega), List.drop_zero, List.drop_eq_getElem_cons h, acB]
  have el : decide (i + 1 = l.length) = (l.drop (i + 1)).isEmpty := by rw [Bool.eq_iff_iff]; simp; omega
  rw [el]
  cases aid l[i] (decide (l[i].length = 1)) (l.drop (i + 1)).isEmpty
  ·simp only [Bool.false_eq_true, if_false]
   rw [ih (i + 1) fu (by omega) (by omega)]; simp
  ·simp
theorem agb : ∀ (s : Str), ∀ x ∈ cS s, x.length ≤ s.length
 | [], x, hx => by simp [cS] at hx; subst hx; simp
 | b :: r, x, hx => by
  have ih := agb r
  simp only [cS] at hx
  split at hx
  ·rcases List.mem_cons.1 hx with rfl | hx
   ·simp
   ·have := ih x hx; simp; omega
  ·cases hr : cS r with
   | nil => exact absurd hr (aax r)
   | cons y t =>
    rw [hr] at hx ih
    rcases List.mem_cons.1 hx with rfl | hx
    ·have := ih y List.mem_cons_self; simp; omega
    ·have := ih x (List.mem_cons_of_mem _ hx); simp; omega
theorem filter_eq (s : Str) : tB s = some (vM s) := by
 unfold tB vM
 rw [cN (anQ s)]
 cases h : sizedB s
 ·rw [aM (by rfl)]; rfl
 ·have hl := acw h
  have hc : s.count 47 ≤ s.length := List.count_le_length
  have hn := abk s
  rw [aS (by rfl), cN (aro s (by omega))]
  have := asQ (cS s) (by omega) (fun x hx => by have := agb s x hx; omega) (cS s).length 0 fuel (by omega) (by rw [m6]; omega)
  rw [show ((0 : Nat) : Int) = 0 from rfl] at this
  rw [this]; simp
abbrev xQ : Str := [36, 115, 104, 97, 114, 101, 47]
def nX (s p : Str) : Bool := decide (p.length ≤ s.length) && (s.take p.length == p)
theorem adb (s p : Str) : jJ s p = some (nX s p) := by
 unfold jJ nX
 by_cases h : p.length ≤ s.length
 ·rw [aM (by simp; omega), aM (by simp; omega)]; simp [bQ, h]
 ·rw [aS (by simp; omega)]; simp [h]
theorem agC (s p : Str) : m8 s p = some (nX s p) := by
 unfold m8; rw [cN (adb s p)]
theorem anc (s p : Str) : pP s p = some (if nX s p = true then (s.drop p.length, true) else (s, false)) := by
 unfold pP oT
 rw [cN (adb s p)]
 cases h : nX s p
 ·rw [aM (by rfl)]; rfl
 ·have hl : p.length ≤ s.length := by simp only [nX, Bool.and_eq_true, decide_eq_true_eq] at h; exact h.1
  rw [aS (by rfl), aM (by simp; omega)]; simp [bQ]
theorem aul (s : Str) (hs : s.length < 1000000000000000) : xP s ([47] : Str) = some (if Lib.indexByte s 47 = -1 then (s, [], false) else (s.take (Lib.indexByte s 47).toNat, s.drop ((Lib.indexByte s 47).toNat + 1), true)) := by
 have hi : j6 s ([47] : Str) = some (Lib.indexByte s 47) := by
  have := aiZ s
  unfold nC at this
  cases h : j6 s ([47] : Str) with
  | none => rw [h] at this; cases this
  | some v => rw [h] at this; exact this
 unfold xP vY
 rw [cN hi]
 rcases adq 47 s with ⟨h1, h2⟩ | ⟨m, h1, h2, h3, h4⟩
 ·rw [h1, aS (by rfl)]; rfl
 ·have e2 : IntKind.wrap .i64 ((m : Int) + (List.length ([47] : Str) : Int)) = ((m + 1 : Nat) : Int) := bN (by omega)
  rw [h1, aM (by simp), aM (by simp; omega), e2, aM (by simp; omega), if_neg (by omega)]
  simp [bQ]
def vJ (s : Str) : Option (Str × Str) :=
 if nX s xQ = true then
  (if Lib.indexByte (s.drop 7) 47 = -1 then none
  else if (sY ((s.drop 7).take (Lib.indexByte (s.drop 7) 47).toNat) && vM ((s.drop 7).drop ((Lib.indexByte (s.drop 7) 47).toNat + 1)) && !(nX ((s.drop 7).drop ((Lib.indexByte (s.drop 7) 47).toNat + 1)) xQ)) = true then
   some ((s.drop 7).take (Lib.indexByte (s.drop 7) 47).toNat, (s.drop 7).drop ((Lib.indexByte (s.drop 7) 47).toNat + 1)) else none)
 else none
def tM (o : Option (Str × Str)) : Str × Str × Bool := match o with | some (g, f) => (g, f, true) | none => ([], [], false)
theorem arc (s : Str) (hs : s.length < 1000000000000000) : wT s = some (tM (vJ s)) := by
 unfold wT vJ
 rw [cN (anc s xQ)]
 cases h : nX s xQ
 ·rw [aM (by rfl)]; rfl
 ·simp only [if_true]
  have e7 : s.drop xQ.length = s.drop 7 := rfl
  rw [aS (by rfl), e7, cN (aul (s.drop 7) (by simp; omega))]
  by_cases h1 : Lib.indexByte (s.drop 7) 47 = -1
  ·rw [if_pos h1, if_pos h1, aM (by rfl)]; rfl
  ·rw [if_neg h1, if_neg h1, aS (by rfl)]
   rw [cN (afo _ (by simp; omega))]
   cases sY ((s.drop 7).take (Lib.indexByte (s.drop 7) 47).toNat)
   ·rw [aM (by rfl)]; simp [tM]
   ·rw [aS (by rfl), cN (filter_eq _)]
    cases vM ((s.drop 7).drop ((Lib.indexByte (s.drop 7) 47).toNat + 1))
    ·rw [aM (by rfl)]; simp [tM]
    ·rw [aS (by rfl), cN (agC _ _)]
     cases nX ((s.drop 7).drop ((Lib.indexByte (s.drop 7) 47).toNat + 1)) xQ
     ·rw [aS (by rfl)]; simp [tM]
     ·rw [aM (by rfl)]; simp [tM]
def afx (s : Str) : Nat := if Lib.indexByte s 47 = -1 then s.length else (Lib.indexByte s 47).toNat
def w9 (s : Str) : Bool := (vJ s).isSome || vM s && !(nX s xQ)
theorem afW (o : Option (Str × Str)) : (tM o).2.2 = o.isSome := by cases o <;> rfl
end Md
end PX
set_option linter.unusedVariables false
set_option linter.unusedSimpArgs false
namespace PX
open Go
namespace Md
theorem aoa (x y : aE) : (x.Key == y.Key && (x.Value == y.Value && true)) = decide (x = y) := by
 cases x; cases y; rw [Bool.eq_iff_iff]; simp
theorem yX {α : Type} {a b : List α} (h : a.length = b.length) : ((a.length : Int) == (b.length : Int)) = true := by rw [h]; simp
theorem yU {α : Type} {a b : List α} (h : ¬ a.length = b.length) : ((a.length : Int) == (b.length : Int)) = false := by simp; omega
theorem aaa (a b : aB) (ha : a.Props.length < 1000000000000000) : oO a b = some (decide (a = b)) := by
 have hj : a.Props.length = b.Props.length → vZ a b = some (decide (a.Props = b.Props)) := by
  intro hl
  exact uB (F := fun fu i => mJ fu a.Props (a.Props.length : Int) i b) hl
   (fun fu => by rw [mJ, aS (l5 (by omega))])
   (fun fu i h h' => by rw [mJ, aM (gX h), aM (inr h), aM (inr h'), cB h, cB h', bN (by omega), eS, aoa]) (by omega)
 unfold oO
 obtain ⟨a1, a2, a3, a4, a5, a6, a7, a8, a9⟩ := a
 obtain ⟨b1, b2, b3, b4, b5, b6, b7, b8, b9⟩ := b
 simp only at hj ha ⊢
 simp only [aB.mk.injEq]
 by_cases hl : a9.length = b9.length
 ·rw [hj hl]
  simp only [eS, dG, yX hl, bV, aaD, af9]
 ·simp only [eS, dG, yU hl, bO, aaD, aua]
  symm
  simp; rintro - - - - - - - - rfl; exact hl rfl
theorem aob (a b : List aE) (ha : a.length < 1000000000000000) : lR a b = some (decide (a = b)) := by
 unfold lR
 by_cases hl : a.length = b.length
 ·rw [dG, aM (yX hl)]
  exact uB (F := fun fu i => fL fu a b i) hl
   (fun fu => by rw [fL, aS (l5 (by omega))])
   (fun fu i h h' => by rw [fL, aM (gX h), aM (inr h), aM (inr h'), cB h, cB h', bN (by omega), eS, aoa]) (by omega)
 ·rw [dG, aS (yU hl)]
  symm; simp; rintro rfl; exact hl rfl
theorem vK (a b : aB) (ha : a.Props.length < 1000000000000000) : iG a b = some (decide (a = b)) := by
 unfold iG
 obtain ⟨a1, a2, a3, a4, a5, a6, a7, a8, a9⟩ := a
 obtain ⟨b1, b2, b3, b4, b5, b6, b7, b8, b9⟩ := b
 simp only at ha ⊢
 simp only [aB.mk.injEq, aob a9 b9 ha, n5, aaD, af9]
def aou (s : Str) : Bool := dU 1 16 s.length && s.all rY
theorem amf (b : UInt8) : rY b = decide ((97 ≤ b.toNat ∧ b.toNat ≤ 122) ∨ (48 ≤ b.toNat ∧ b.toNat ≤ 57) ∨ b.toNat = 45) := by
 rw [Bool.eq_iff_iff]; simp only [rY, aaW, ag4, Bool.or_eq_true, Bool.and_eq_true, decide_eq_true_eq, or_assoc]
theorem alr (s : Str) : xS s = some (aou s) := by
 unfold xS aou
 simp only [wZ]
 simp only [eS, adi, aix, bV, bO, dG, agp, aim, uK, bC, aaY, n5, acH, acb, aiq, wZ, abr, aip, wL]
 cases hr : dU 1 16 s.length
 ·rfl
 ·rw [aa8] at hr
  rw [bV, bV]
  unfold xA
  refine sH (F := fun fu i => fJ fu s i) (g := fun r => some (r.all rY)) (fun fu => by rw [fJ, aS (l5 (by omega))]; rfl) (fun fu i h ih => ?_) (by omega)
  rw [fJ, aM (gX h), aM (inr h), afb h, bN (by omega), ih, List.all_cons, wZ, amf]
  simp only [eS, adi, aix, bV, bO, dG, agp, aim, uK, bC, aaY, n5, acH, acb, aiq, wZ, abr, aip, aaD]
  simp only [Bool.cond_decide]; (repeat' split) <;> first | rfl | omega
theorem aqb (s : Str) : rU s = some (aou s) := by
 unfold rU aou
 simp only [wZ]
 simp only [eS, adi, aix, bV, bO, dG, agp, aim, uK, bC, aaY, n5, acH, acb, aiq, wZ, abr, aip, wL]
 cases hr : dU 1 16 s.length
 ·rfl
 ·rw [aa8] at hr
  rw [bV, bV]
  unfold sK
  refine sH (F := fun fu i => dN fu s i) (g := fun r => some (r.all rY)) (fun fu => by rw [dN, aS (l5 (by omega))]; rfl) (fun fu i h ih => ?_) (by omega)
  rw [dN, aM (gX h), aM (inr h), afb h, bN (by omega), ih, List.all_cons, wZ, amf]
  simp only [eS, adi, aix, bV, bO, dG, agp, aim, uK, bC, aaY, n5, acH, acb, aiq, wZ, abr, aip, aaD]
  simp only [Bool.cond_decide]; (repeat' split) <;> first | rfl | omega
end Md
end PX
set_option linter.unusedVariables false
set_option linter.unusedSimpArgs false
namespace PX
open Go
namespace Md
theorem amI (x b : Int) : pX x b = some (dU 0 b x) := by
 unfold pX dU
 simp only [wZ, acb]
def avT : Option Str → Str → Bool
 | none, _ => false
 | some k, s => Op.bytesLess s k || s == k
def afp : Option Str → List aE → Int
 | _, [] => 0
 | k, x :: r => cond (aou x.Key) (cond (decide (160 < x.Value.length)) 5 (cond (avT k x.Key) 16 (afp (some x.Key) r))) 16
def abD (l : List aE) : Int := cond (decide (8 < l.length)) 5 (afp none l)
theorem cV {α : Type} (b : Bool) (x y : α) : some (cond b x y) = cond b (some x) (some y) := by cases b <;> rfl
theorem ajz (l : List aE) : rN l = some (abD l) := by
 unfold rN abD
 rw [cV]
 by_cases hl : l.length > 8
 ·rw [aM (by simp; omega), aM (by simp; omega)]
 ·rw [aS (by simp; omega), aS (by simp; omega)]
  have := uA (n := l.length) (F := fun fu i (_ : Unit) => jV fu l l (l.length : Int) i) (G := fun i _ => some (afp (if i = 0 then none else some (l.getD (i - 1) default).Key) (l.drop i))) (fun _ _ => True)
   (fun fu s _ => by rw [jV, aS (l5 (by omega)), List.drop_length]; rfl)
   (fun fu i s h _ ih => by
    have ih := ih () trivial
    rw [jV, aM (gX h), aM (inr h), cB h, cN (alr _), bN (by omega), ih, List.drop_eq_getElem_cons h, afp, if_neg (by omega)]
    simp only [cV, eS, uK, Nat.add_sub_cancel]
    rw [aiC h]
    congr 1
    have e : decide (160 < (l[i].Value.length : Int)) = decide (160 < l[i].Value.length) := by rw [Bool.eq_iff_iff]; simp; omega
    rw [e]
    congr 1
    by_cases hz : i = 0
    ·subst hz; rw [aS (by simp), if_pos rfl]; rfl
    ·have e2 : IntKind.wrap .i64 ((i : Int) - 1) = ((i - 1 : Nat) : Int) := by rw [w64 (by omega) (by omega)]; omega
     rw [aM (by simp; omega), e2, aM (inr (by omega)), Int.toNat_natCast, if_neg hz]; rfl)
   (by omega) () trivial
  simpa using this
theorem anh (l : List aE) : pM l = some (abD l) := by
 unfold pM abD
 rw [cV]
 by_cases hl : l.length > 8
 ·rw [aM (by simp; omega), aM (by simp; omega)]
 ·rw [aS (by simp; omega), aS (by simp; omega)]
  have := uA (n := l.length) (F := fun fu i (_ : Unit) => gK fu l i) (G := fun i _ => some (afp (if i = 0 then none else some (l.getD (i - 1) default).Key) (l.drop i))) (fun _ _ => True)
   (fun fu s _ => by rw [gK, aS (l5 (by omega)), List.drop_length]; rfl)
   (fun fu i s h _ ih => by
    have ih := ih () trivial
    rw [gK, aM (gX h), aM (inr h), cB h, cN (aqb _), bN (by omega), ih, List.drop_eq_getElem_cons h, afp, if_neg (by omega)]
    simp only [cV, eS, uK, Nat.add_sub_cancel]
    rw [aiC h]
    congr 1
    have e : decide (160 < (l[i].Value.length : Int)) = decide (160 < l[i].Value.length) := by rw [Bool.eq_iff_iff]; simp; omega
    rw [e, aM (inr h)]
    congr 1
    by_cases hz : i = 0
    ·subst hz; rw [aS (by simp), if_pos rfl]; rfl
    ·have e2 : IntKind.wrap .i64 ((i : Int) - 1) = ((i - 1 : Nat) : Int) := by rw [w64 (by omega) (by omega)]; omega
     rw [aM (by simp; omega), aM (inr h), e2, aM (inr (by omega)), Int.toNat_natCast, if_neg hz]; rfl)
   (by omega) () trivial
  simpa using this
def g8 (m : aB) : Int := cond (afM m.Topic) (cond (decide (256 < (m.Payload.length : Int))) 5 (cond (dU 0 2 m.Level) (cond (dU 0 9 m.Priority) (cond (dU 0 1099511627776 m.Expires)
 (cond (m.From == []) (cond (dU 0 1099511627776 m.Seq) (abD m.Props) 1) (cond (sY m.From) (cond (dU 0 1099511627776 m.Seq) (abD m.Props) 1) 11)) 1) 1) 14)) 12
theorem uI (m : aB) (hm : m.From.length < 1000000000000000) : g5 m = some (g8 m) := by
 simp only [g5, g8, cV, asP, amI, afo _ hm, ajz, eS, adi, aix, bV, bO, dG, agp, aim, uK, bC, aaY, n5, acH, acb, aiq, wZ, abr, aip]
theorem aaC (m : aB) (hm : m.From.length < 1000000000000000) : gC m = some (g8 m) := by
 simp only [gC, qB, pR, lI, g8, cV, an1, yB _ hm, anh, eS, adi, aix, bV, bO, dG, agp, aim, uK, bC, aaY, n5, acH, acb, aiq, wZ, abr, aip, wL]
end Md
end PX
