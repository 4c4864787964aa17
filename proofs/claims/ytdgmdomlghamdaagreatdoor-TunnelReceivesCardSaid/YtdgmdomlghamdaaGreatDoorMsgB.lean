import Derived.Test.YtdgmdomlghamdaaGreatDoorMod
import Derived.Test.YtdgmdomlghamdaaGreatDoorPXc
set_option linter.unusedVariables false
set_option linter.unusedSimpArgs false
namespace PX
open Go
namespace Md
def abU (b : UInt8) : Bool := decide (97 ≤ b.toNat) && decide (b.toNat ≤ 122)
def ajK (b : UInt8) : Bool := decide (48 ≤ b.toNat) && decide (b.toNat ≤ 57)
def sR (b : UInt8) : Bool := abU b || ajK b || decide (b.toNat = 45)
def mO (s : Str) : Bool := decide (1 ≤ s.length) && decide (s.length ≤ 16) && abU (s.getD 0 0) && s.all sR
theorem aqs {s : Str} {i : Nat} (h : i < s.length) (f : UInt8 → Bool) : (s.drop i).all f = (f s[i] && (s.drop (i + 1)).all f) := by
 rw [List.drop_eq_getElem_cons h, List.all_cons]
theorem ayq (k4 : Str → Nat → Option Bool) (i v w : Nat) (s : Str) :
  (cond (decide ((v : Int) ≥ 97)) (qB k4 (i : Int) (v : Int) (decide ((v : Int) ≤ 122)) s (i + w)) (qB k4 (i : Int) (v : Int) false s (i + w))) =
   if 97 ≤ v ∧ v ≤ 122 then k4 s (i + w) else if i = 0 then some false else if v = 45 ∨ (48 ≤ v ∧ v ≤ 57) then k4 s (i + w) else some false := by
 unfold qB
 by_cases c1 : 97 ≤ v
 ·rw [aK (by simp; omega)]
  by_cases c2 : v ≤ 122
  ·rw [if_pos ⟨c1, c2⟩, aR (by simp; omega)]
  ·rw [if_neg (by omega), aK (by simp; omega)]
   by_cases c3 : i = 0
   ·rw [if_pos c3, aK (by simpa using c3)]
   ·rw [if_neg c3, aR (by simpa using c3), if_neg (by omega), aK (by simp; omega), aR (by simp; omega), aK (by simp; omega)]
 ·rw [aR (by simp; omega), if_neg (by omega), aK (by rfl)]
  by_cases c3 : i = 0
  ·rw [if_pos c3, aK (by simpa using c3)]
  ·rw [if_neg c3, aR (by simpa using c3)]
   by_cases c4 : v = 45
   ·rw [if_pos (.inl c4), aR (by simp; omega)]
   ·rw [aK (by simp; omega)]
    by_cases c5 : v < 48
    ·rw [if_neg (by omega), aK (by simp; omega)]
    ·rw [aR (by simp; omega)]
     by_cases c6 : v > 57
     ·rw [if_neg (by omega), aK (by simp; omega)]
     ·rw [if_pos (by omega), aR (by simp; omega)]
theorem ay7 (s : Str) (hs : 0 < s.length) : ∀ (k i fu : Nat), s.length - i ≤ k → k < fu → lU fu s i = some ((s.drop i).all sR && (decide (i ≠ 0) || abU (s.getD 0 0))) := by
 intro k
 induction k with
 | zero =>
  intro i fu hi hf
  obtain ⟨fu, rfl⟩ : ∃ n, fu = n + 1 := ⟨fu - 1, by omega⟩
  rw [lU, aR (by simp; omega), List.drop_eq_nil_of_le (by omega)]
  simp; omega
 | succ k ih =>
  intro i fu hi hf
  obtain ⟨fu, rfl⟩ : ∃ n, fu = n + 1 := ⟨fu - 1, by omega⟩
  by_cases h : i < s.length
  ·rw [lU, aK (by simpa using h), ayq, aqs h]
   by_cases lo : s[i].toNat < 128
   ·rw [amA h lo]
    simp only
    have h0 : i = 0 → s.getD 0 0 = s[i] := by rintro rfl; rw [ako hs]
    by_cases c1 : 97 ≤ s[i].toNat ∧ s[i].toNat ≤ 122
    ·have e1 : abU s[i] = true := by simp [abU, c1]
     rw [if_pos c1, ih (i + 1) fu (by omega) (by omega)]
     by_cases hz : i = 0
     ·rw [h0 hz, e1]; simp [sR, e1]
     ·simp [sR, e1, hz]
    ·have e1 : abU s[i] = false := by simp [abU]; omega
     rw [if_neg c1]
     by_cases hz : i = 0
     ·rw [if_pos hz, h0 hz, e1]; simp [hz]
     ·rw [if_neg hz]
      by_cases c2 : s[i].toNat = 45 ∨ (48 ≤ s[i].toNat ∧ s[i].toNat ≤ 57)
      ·rw [if_pos c2, ih (i + 1) fu (by omega) (by omega)]
       have e2 : sR s[i] = true := by
        simp only [sR, ajK, Bool.or_eq_true, Bool.and_eq_true, decide_eq_true_eq]; omega
       simp [e2, hz]
      ·rw [if_neg c2]
       have e2 : sR s[i] = false := by
        simp only [sR, e1, ajK, Bool.false_or, Bool.or_eq_false_iff, Bool.and_eq_false_iff, decide_eq_false_iff_not]; omega
       simp [e2]
   ·have hd := aiT h (by omega)
    have e2 : sR s[i] = false := by
     simp only [sR, abU, ajK, Bool.or_eq_false_iff, Bool.and_eq_false_iff, decide_eq_false_iff_not]; omega
    rw [if_neg (by omega)]
    by_cases hz : i = 0
    ·rw [if_pos hz]; simp [e2]
    ·rw [if_neg hz, if_neg (by omega)]; simp [e2]
  ·rw [lU, aR (by simpa using h), List.drop_eq_nil_of_le (by omega)]
   simp; omega
theorem ag5 (s : Str) (hl : s.length < 1000000000000000) : oU s = some (mO s) := by
 unfold oU mO
 by_cases c1 : s.length < 1
 ·rw [aK (by simp; omega)]; simp; omega
 ·rw [aR (by simp; omega)]
  by_cases c2 : s.length > 16
  ·rw [aK (by simp; omega)]; simp; omega
  ·rw [aR (by simp; omega)]
   unfold aan
   rw [ay7 s (by omega) s.length 0 fuel (by omega) (by rw [iK]; omega)]
   have e1 : decide (1 ≤ s.length) = true := by simp; omega
   have e2 : decide (s.length ≤ 16) = true := by simp; omega
   simp [e1, e2, Bool.and_comm]
end Md
end PX
set_option linter.unusedVariables false
set_option linter.unusedSimpArgs false
namespace PX
open Go
namespace Md
theorem drop_nil {α : Type} (l : List α) (n : Nat) (h : l.length ≤ n) : l.drop n = [] := List.drop_eq_nil_of_le h
theorem agY {s : Str} {i : Nat} (h : i < s.length) : List.getD s (Int.toNat (i : Int)) 0 = s[i] := by rw [Int.toNat_natCast, ako h]
theorem aqZ (b : UInt8) : nY (UInt8.toNat b : Int) = some (abU b) := by
 unfold nY abU
 by_cases c : 97 ≤ b.toNat
 ·rw [aK (by simp; omega)]
  have e : decide (97 ≤ b.toNat) = true := by simpa using c
  rw [e, Bool.true_and]; congr 1; simp <;> omega
 ·rw [aR (by simp; omega)]
  have e : decide (97 ≤ b.toNat) = false := by simpa using c
  rw [e, Bool.false_and]
theorem av4 (b : UInt8) : qJ (UInt8.toNat b : Int) = some (ajK b) := by
 unfold qJ ajK
 by_cases c : 48 ≤ b.toNat
 ·rw [aK (by simp; omega)]
  have e : decide (48 ≤ b.toNat) = true := by simpa using c
  rw [e, Bool.true_and]; congr 1; simp <;> omega
 ·rw [aR (by simp; omega)]
  have e : decide (48 ≤ b.toNat) = false := by simpa using c
  rw [e, Bool.false_and]
theorem asQ (s : Str) (hl : s.length < 1000000000000000) : ∀ (k i fu : Nat), i + k = s.length → k < fu → gS fu s (i : Int) = some ((s.drop i).all sR) := by
 intro k
 induction k with
 | zero =>
  intro i fu hi hf
  obtain ⟨fu, rfl⟩ : ∃ n, fu = n + 1 := ⟨fu - 1, by omega⟩
  rw [gS, aR (o6 (by omega)), List.drop_eq_nil_of_le (by omega)]; rfl
 | succ k ih =>
  intro i fu hi hf
  obtain ⟨fu, rfl⟩ : ∃ n, fu = n + 1 := ⟨fu - 1, by omega⟩
  have h : i < s.length := by omega
  rw [gS, aK (jD h), aK (inr h), agY h, dA (aqZ _), aqs h, cI (by omega), ih (i + 1) fu (by omega) (by omega)]
  unfold sR
  cases c1 : abU s[i]
  ·rw [aK (by rfl), aK (inr h), dA (av4 _)]
   cases c2 : ajK s[i]
   ·rw [aK (by rfl), aK (inr h)]
    by_cases c3 : s[i].toNat = 45
    ·rw [aR (by simp; omega)]; simp [c3]
    ·rw [aK (by simp; omega)]; simp [c3]
   ·rw [aR (by rfl)]; simp
  ·rw [aR (by rfl)]; simp
theorem aad (s : Str) (hl : s.length < 1000000000000000) : iJ s = some (mO s) := by
 unfold iJ mO
 by_cases c1 : s.length < 1
 ·rw [aK (by simp; omega)]; simp; omega
 ·rw [aR (by simp; omega)]
  by_cases c2 : s.length > 16
  ·rw [aK (by simp; omega)]; simp; omega
  ·have e1 : decide (1 ≤ s.length) = true := by simp; omega
   have e2 : decide (s.length ≤ 16) = true := by simp; omega
   rw [aR (by simp; omega), aK (by simp; omega), dA (aqZ _), e1, e2]
   have e3 : List.getD s (Int.toNat 0) 0 = s.getD 0 0 := rfl
   rw [e3]
   cases c3 : abU (s.getD 0 0)
   ·rw [aK (by rfl)]; simp
   ·rw [aR (by rfl)]
    unfold sJ
    have := asQ s hl s.length 0 fuel (by omega) (by rw [iK]; omega)
    rw [show ((0 : Nat) : Int) = 0 from rfl] at this
    rw [this]; simp
theorem azB (s : Str) (hl : s.length < 1000000000000000) (c : UInt8) : ∀ (k i fu : Nat), i + k = s.length → k < fu → kJ fu s (c.toNat : Int) (i : Int) = some ((s.drop i).contains c) := by
 intro k
 induction k with
 | zero =>
  intro i fu hi hf
  obtain ⟨fu, rfl⟩ : ∃ n, fu = n + 1 := ⟨fu - 1, by omega⟩
  rw [kJ, aR (o6 (by omega)), List.drop_eq_nil_of_le (by omega)]; rfl
 | succ k ih =>
  intro i fu hi hf
  obtain ⟨fu, rfl⟩ : ∃ n, fu = n + 1 := ⟨fu - 1, by omega⟩
  have h : i < s.length := by omega
  rw [kJ, aK (jD h), aK (inr h), agY h, cI (by omega), ih (i + 1) fu (by omega) (by omega), List.drop_eq_getElem_cons h, List.contains_cons]
  by_cases e : s[i] = c
  ·rw [aK (by simp [e])]; simp [e]
  ·have e2 : ¬ s[i].toNat = c.toNat := fun h => e (UInt8.toNat.inj h)
   rw [aR (by simp; omega)]
   have e3 : (c == s[i]) = false := by simp; exact fun h => e h.symm
   simp [e3]
theorem aiO (s : Str) (hl : s.length < 1000000000000000) (c : UInt8) {n : Int} (hn : n = (c.toNat : Int)) : jZ s n = some (s.contains c) := by
 subst hn
 have := azB s hl c s.length 0 fuel (by omega) (by rw [iK]; omega)
 simpa [jZ] using this
def sizedB (s : Str) : Bool := decide (1 ≤ s.length) && decide (s.length ≤ 64) && !(s.contains 0) && decide (s.count 47 + 1 ≤ 8)
theorem aw7 (s : Str) : ∀ (k i fu c : Nat), s.length - i ≤ k → k < fu → c + k < 1000000000 → kR fu (c : Int) s i = some (!((s.drop i).contains 0) && decide (c + (s.drop i).count 47 ≤ 8)) := by
 intro k
 induction k with
 | zero =>
  intro i fu c hi hf hc
  obtain ⟨fu, rfl⟩ : ∃ n, fu = n + 1 := ⟨fu - 1, by omega⟩
  have ec : decide ((c : Int) ≤ 8) = decide (c ≤ 8) := by rw [decide_eq_decide]; omega
  rw [kR, aR (by simp; omega), List.drop_eq_nil_of_le (by omega), ec]; simp <;> exact decide_eq_decide.2 Iff.rfl
 | succ k ih =>
  intro i fu c hi hf hc
  obtain ⟨fu, rfl⟩ : ∃ n, fu = n + 1 := ⟨fu - 1, by omega⟩
  by_cases h : i < s.length
  ·rw [kR, aK (by simpa using h)]
   by_cases lo : s[i].toNat < 128
   ·rw [amA h lo, List.drop_eq_getElem_cons h, List.contains_cons, List.count_cons]
    simp only
    by_cases c0 : s[i].toNat = 0
    ·have e : s[i] = 0 := UInt8.toNat.inj (by simpa using c0)
     rw [aK (by simp; omega)]; simp [e]
    ·have e : (0 == s[i]) = false := by simp; intro h; rw [← h] at c0; simp at c0
     rw [aR (by simp; omega), e, Bool.false_or]
     by_cases c1 : s[i].toNat = 47
     ·have e1 : s[i] = 47 := UInt8.toNat.inj (by simpa using c1)
      rw [aK (by simp; omega), cI (by omega), ih (i + 1) fu (c + 1) (by omega) (by omega) (by omega)]
      simp only [e1, beq_self_eq_true, if_true]
      rw [show c + 1 + List.count 47 (List.drop (i + 1) s) = c + (List.count 47 (List.drop (i + 1) s) + 1) by omega]
     ·have e1 : (s[i] == 47) = false := by simp; intro h; rw [h] at c1; simp at c1
      rw [aR (by simp; omega), ih (i + 1) fu c (by omega) (by omega) (by omega)]
      simp [e1]
   ·obtain ⟨t, ht, hh⟩ := alx h (by omega)
    have hd := aiT h (by omega)
    rw [aR (by simp; omega), aR (by simp; omega), ih (i + (dec s i).2) fu c (by omega) (by omega) (by omega), ht, wH hh (by decide), asC hh (by decide)]
  ·have ec : decide ((c : Int) ≤ 8) = decide (c ≤ 8) := by rw [decide_eq_decide]; omega
   rw [kR, aR (by simpa using h), List.drop_eq_nil_of_le (by omega), ec]; simp <;> exact decide_eq_decide.2 Iff.rfl
theorem aq5 (s : Str) : wM s = some (sizedB s) := by
 unfold wM sizedB
 by_cases c1 : s.length < 1
 ·rw [aK (by simp; omega)]; simp; omega
 ·rw [aR (by simp; omega)]
  by_cases c2 : s.length > 64
  ·rw [aK (by simp; omega)]; simp; omega
  ·have e1 : decide (1 ≤ s.length) = true := by simp; omega
   have e2 : decide (s.length ≤ 64) = true := by simp; omega
   rw [aR (by simp; omega), e1, e2]
   unfold y8
   have := aw7 s s.length 0 fuel 1 (by omega) (by rw [iK]; omega) (by omega)
   rw [show ((1 : Nat) : Int) = 1 from rfl] at this
   rw [this]; simp [Nat.add_comm]
def dG : Str → List Str
 | [] => [[]]
 | b :: r => if b = 47 then [] :: dG r else match dG r with | [] => [[b]] | h :: t => (b :: h) :: t
theorem abl (s : Str) : dG s ≠ [] := by
 cases s with
 | nil => simp [dG]
 | cons b r => simp only [dG]; split <;> (try simp); split <;> simp
theorem ab2 : ∀ s : Str, (dG s).length = s.count 47 + 1
 | [] => by simp [dG]
 | b :: r => by
  have ih := ab2 r
  simp only [dG, List.count_cons]
  by_cases h : b = 47
  ·simp [h, ih]
  ·rw [if_neg h]
   have hb : (b == 47) = false := by simpa using h
   cases hr : dG r with
   | nil => exact absurd hr (abl r)
   | cons x t => rw [hr] at ih; simp [hb] at ih ⊢; omega
def agc (p : Str) : List Str → List Str
 | [] => [p]
 | h :: t => (p ++ h) :: t
theorem asP (p r : Str) : agc p (dG (47 :: r)) = p :: dG r := by simp [dG, agc]
theorem auh (p r : Str) {b : UInt8} (h : b ≠ 47) : agc p (dG (b :: r)) = agc (p ++ [b]) (dG r) := by
 simp only [dG, if_neg h]
 cases hr : dG r with
 | nil => exact absurd hr (abl r)
 | cons x t => simp [agc]
theorem axo (s : Str) {a i : Nat} (h1 : a ≤ i) (h2 : i ≤ s.length) : cF s (some (a : Int)) (some (i : Int)) = (s.take i).drop a := by simp [cF]
theorem awd (s : Str) {a i : Nat} (h1 : a ≤ i) (h2 : i < s.length) : (s.take i).drop a ++ [s[i]] = (s.take (i + 1)).drop a := by
 rw [← auZ h2, List.drop_append_of_le_length (by simp; omega)]
theorem aqd (s : Str) (hl : s.length < 1000000) : ∀ (k i fu a : Nat) (acc : List Str), i + k = s.length → k < fu → a ≤ i → acc.length ≤ i →
  gV fu s (a : Int) (i : Int) acc = some (acc ++ agc ((s.take i).drop a) (dG (s.drop i))) := by
 intro k
 induction k with
 | zero =>
  intro i fu a acc hi hf ha hacc
  obtain ⟨fu, rfl⟩ : ∃ n, fu = n + 1 := ⟨fu - 1, by omega⟩
  have e : cF s (some (a : Int)) none = (s.take i).drop a := by simp [cF, List.take_of_length_le (show s.length ≤ i by omega)]
  rw [gV, aR (o6 (by omega)), aK (by simp; omega), e, aK (by simp; omega), drop_nil s i (by omega)]
  simp [dG, agc]
 | succ k ih =>
  intro i fu a acc hi hf ha hacc
  obtain ⟨fu, rfl⟩ : ∃ n, fu = n + 1 := ⟨fu - 1, by omega⟩
  have h : i < s.length := by omega
  rw [gV, aK (jD h), aK (inr h), agY h, cI (by omega), List.drop_eq_getElem_cons (l := s) h]
  by_cases c : s[i].toNat = 47
  ·have e : s[i] = 47 := UInt8.toNat.inj (by simpa using c)
   rw [aK (by simp; omega), aK (by simp; omega), aK (by simp; omega), axo s ha (by omega), aK (by simp; omega), ih (i + 1) fu (i + 1) _ (by omega) (by omega) (by omega) (by simp; omega), e, asP]
   rw [drop_nil (s.take (i + 1)) _ (by simp; omega)]
   cases hr : dG (s.drop (i + 1)) with
   | nil => exact absurd hr (abl _)
   | cons x t => simp [agc]
  ·have e : s[i] ≠ 47 := fun h => c (by rw [h]; rfl)
   rw [aR (by simp; omega), ih (i + 1) fu a acc (by omega) (by omega) (by omega) (by omega), auh _ _ e, awd s ha h]
theorem ah5 (s : Str) (hl : s.length < 1000000) : o5 s = some (dG s) := by
 have := aqd s hl s.length 0 fuel 0 [] (by omega) (by rw [iK]; omega) (by omega) (by simp)
 have e : agc [] (dG s) = dG s := by
  cases hr : dG s with
  | nil => exact absurd hr (abl _)
  | cons x t => simp [agc]
 simp only [List.drop_zero, List.take_zero, List.drop_nil, List.nil_append, e] at this
 exact this
theorem aja (s : Str) : nX s = some (sizedB s) := by
 unfold nX sizedB
 by_cases c1 : s.length < 1
 ·rw [aR (by simp; omega)]; simp; omega
 ·rw [aK (by simp; omega)]
  by_cases c2 : s.length > 64
  ·rw [aR (by simp; omega)]; simp; omega
  ·have e1 : decide (1 ≤ s.length) = true := by simp; omega
   have e2 : decide (s.length ≤ 64) = true := by simp; omega
   rw [aK (by simp; omega), dA (aiO s (by omega) 0 (n := 0) rfl), e1, e2, Bool.true_and, Bool.true_and]
   cases s.contains 0
   ·rw [aK (by rfl), dA (ah5 s (by omega)), ab2]
    simp; omega
   ·rw [aR (by rfl)]; rfl
def xZ (s : Str) : Bool := sizedB s && !(s.contains 43) && !(s.contains 35)
theorem axt (s : Str) : ∀ (k i fu : Nat), s.length - i ≤ k → k < fu → mM fu s i = some (!((s.drop i).contains 43) && !((s.drop i).contains 35)) := by
 intro k
 induction k with
 | zero =>
  intro i fu hi hf
  obtain ⟨fu, rfl⟩ : ∃ n, fu = n + 1 := ⟨fu - 1, by omega⟩
  rw [mM, aR (by simp; omega), List.drop_eq_nil_of_le (by omega)]; rfl
 | succ k ih =>
  intro i fu hi hf
  obtain ⟨fu, rfl⟩ : ∃ n, fu = n + 1 := ⟨fu - 1, by omega⟩
  by_cases h : i < s.length
  ·rw [mM, aK (by simpa using h)]
   by_cases lo : s[i].toNat < 128
   ·rw [amA h lo, List.drop_eq_getElem_cons h, List.contains_cons, List.contains_cons]
    simp only
    by_cases c0 : s[i].toNat = 43
    ·have e : s[i] = 43 := UInt8.toNat.inj (by simpa using c0)
     rw [aK (by simp; omega)]; simp [e]
    ·have e : (43 == s[i]) = false := by simp; intro h; rw [← h] at c0; simp at c0
     rw [aR (by simp; omega), e, Bool.false_or]
     by_cases c1 : s[i].toNat = 35
     ·have e1 : s[i] = 35 := UInt8.toNat.inj (by simpa using c1)
      rw [aK (by simp; omega)]; simp [e1]
     ·have e1 : (35 == s[i]) = false := by simp; intro h; rw [← h] at c1; simp at c1
      rw [aR (by simp; omega), ih (i + 1) fu (by omega) (by omega), e1, Bool.false_or]
   ·obtain ⟨t, ht, hh⟩ := alx h (by omega)
    have hd := aiT h (by omega)
    rw [aR (by simp; omega), aR (by simp; omega), ih (i + (dec s i).2) fu (by omega) (by omega), ht, wH hh (by decide), wH hh (by decide)]
  ·rw [mM, aR (by simpa using h), List.drop_eq_nil_of_le (by omega)]; rfl
theorem adg {s : Str} (h : sizedB s = true) : 1 ≤ s.length ∧ s.length ≤ 64 := by
 simp only [sizedB, Bool.and_eq_true, decide_eq_true_eq] at h
 exact ⟨h.1.1.1, h.1.1.2⟩
theorem aq0 (s : Str) : zP s = some (xZ s) := by
 unfold zP xZ
 rw [dA (aq5 s)]
 cases h : sizedB s
 ·rw [aK (by rfl)]; rfl
 ·have := adg h
  rw [aR (by rfl), axt s s.length 0 fuel (by omega) (by rw [iK]; omega)]
  simp
theorem ajE (s : Str) : qF s = some (xZ s) := by
 unfold qF xZ
 rw [dA (aja s)]
 cases h : sizedB s
 ·rw [aR (by rfl)]; rfl
 ·have := adg h
  rw [aK (by rfl), dA (aiO s (by omega) 43 (n := 43) rfl)]
  cases s.contains 43
  ·rw [aK (by rfl), dA (aiO s (by omega) 35 (n := 35) rfl)]; rfl
  ·rw [aR (by rfl)]; rfl
end Md
end PX
set_option linter.unusedVariables false
set_option linter.unusedSimpArgs false
namespace PX
open Go
namespace Md
theorem aeo (c : UInt8) : ∀ l : Str, (Lib.indexByte l c = -1 ∧ l.count c = 0) ∨ ∃ m : Nat, Lib.indexByte l c = m ∧ m < l.length ∧ l = l.take m ++ c :: l.drop (m + 1) ∧ (l.take m).count c = 0
 | [] => .inl (by simp [Lib.indexByte])
 | b :: l => by
  rw [Lib.indexByte]
  by_cases h : b = c
  ·subst h
   exact .inr ⟨0, by simp, by simp, by simp, by simp⟩
  ·have hb : (b == c) = false := by simpa using h
   rw [hb]
   simp only [Bool.false_eq_true, if_false]
   rcases aeo c l with ⟨h1, h2⟩ | ⟨m, h1, h2, h3, h4⟩
   ·left
    rw [h1]
    exact ⟨by simp, by rw [List.count_cons, hb, h2]; simp⟩
   ·right
    have : ((m : Int) == -1) = false := by simp <;> omega
    refine ⟨m + 1, by rw [h1, this]; simp, by simp; omega, ?_, by rw [List.take_succ_cons, List.count_cons, hb, h4]; simp⟩
    simp only [List.take_succ_cons, List.drop_succ_cons, List.cons_append]
    rw [← h3]
theorem ak4 : ∀ {l : Str}, l.count 47 = 0 → dG l = [l]
 | [], _ => rfl
 | b :: l, h => by
  rw [List.count_cons] at h
  have h1 : l.count 47 = 0 := by omega
  have h2 : b ≠ 47 := by rintro rfl; simp at h
  simp only [dG, if_neg h2, ak4 h1]
theorem akG : ∀ {p r : Str}, p.count 47 = 0 → dG (p ++ 47 :: r) = p :: dG r
 | [], r, _ => by simp [dG]
 | b :: p, r, h => by
  rw [List.count_cons] at h
  have h1 : p.count 47 = 0 := by omega
  have h2 : b ≠ 47 := by rintro rfl; simp at h
  simp only [List.cons_append, dG, if_neg h2, akG h1]
theorem aud (s : Str) (hs : s ≠ [47]) : n6 s ([47] : Str) = some (Lib.indexByte s 47) := by
 unfold n6 lA
 have : (([47] : Str) == s) = false := by simp; exact fun h => hs h.symm
 rw [aR (by rfl), aR this, aK (by rfl), aK (by rfl)]
 rfl
theorem ak6 (s : Str) : n6 s ([47] : Str) = some (Lib.indexByte s 47) := by
 by_cases h : s = [47]
 ·subst h; rfl
 ·exact aud s h
theorem axl (N : Nat) (hN : N < 100000) : ∀ (k i fu : Nat) (s : Str) (acc : List Str), i + k = N → k < fu → s.count 47 = k → s.length < 1000000 → acc.length = i →
  jK fu s ([47] : Str) 0 (N : Int) (i : Int) (acc ++ List.replicate (k + 1) default) = some (acc ++ dG s) := by
 intro k
 induction k with
 | zero =>
  intro i fu s acc hi hf hc hs ha
  obtain ⟨fu, rfl⟩ : ∃ n, fu = n + 1 := ⟨fu - 1, by omega⟩
  rw [jK, aR (o6 (by omega))]
  unfold nD
  have e : (acc ++ List.replicate (0 + 1) (default : Str)).set i s = acc ++ [s] := by
   rw [List.set_append_right _ _ (by omega)]; simp [ha]
  rw [Int.toNat_natCast, e, aK (by simp; omega), cI (by omega), aK (by simp; omega), ak4 hc, Int.toNat_natCast]
  rw [Nat.sub_zero, List.drop_zero, List.take_of_length_le (by simp; omega)]
 | succ k ih =>
  intro i fu s acc hi hf hc hs ha
  obtain ⟨fu, rfl⟩ : ∃ n, fu = n + 1 := ⟨fu - 1, by omega⟩
  rw [jK, aK (jD (by omega)), dA (ak6 s)]
  rcases aeo 47 s with ⟨h1, h2⟩ | ⟨m, h1, h2, h3, h4⟩
  ·omega
  ·have e1 : IntKind.wrap .i64 ((m : Int) + 0) = (m : Int) := by rw [w64 (by omega) (by omega)]; omega
   have e2 : IntKind.wrap .i64 ((m : Int) + (List.length ([47] : Str) : Int)) = ((m + 1 : Nat) : Int) := cI (by omega)
   have e3 : cF s none (some (m : Int)) = s.take m := by simp [cF]
   have e4 : cF s (some ((m + 1 : Nat) : Int)) none = s.drop (m + 1) := by simp [cF]
   have hcount : (s.drop (m + 1)).count 47 = k := by
    have := congrArg (List.count 47) h3
    rw [List.count_append, h4, List.count_cons_self, hc] at this
    omega
   have hset : (acc ++ List.replicate (k + 1 + 1) (default : Str)).set i (s.take m) = (acc ++ [s.take m]) ++ List.replicate (k + 1) default := by
    rw [List.set_append_right _ _ (by omega), List.replicate_succ]; simp [ha]
   rw [h1, aR (by simp <;> omega), e1, e2, e3, e4, aK (by simp; omega), aK (by simp; omega), aK (by simp; omega), cI (by omega), Int.toNat_natCast, hset,
    ih (i + 1) fu (s.drop (m + 1)) (acc ++ [s.take m]) (by omega) (by omega) hcount (by simp; omega) (by simp; omega)]
   have : dG s = s.take m :: dG (s.drop (m + 1)) := by
    conv => lhs; rw [h3]
    exact akG h4
   rw [this]; simp
theorem atT (s : Str) (hs : s.length < 100000) : xM s = some (dG s) := by
 have hc : s.count 47 ≤ s.length := List.count_le_length
 have hsplit : v3 s ([47] : Str) = some (dG s) := by
  unfold v3 vV
  have h1 : wC s ([47] : Str) = some ((s.count 47 : Nat) : Int) := by
   unfold wC
   rw [aR (by rfl), aK (by rfl), aK (by rfl)]
   rfl
  rw [aR (by rfl), aR (by rfl), aK (by rfl), dA h1]
  unfold oB
  have e1 : IntKind.wrap .i64 (((s.count 47 : Nat) : Int) + 1) = ((s.count 47 + 1 : Nat) : Int) := cI (by omega)
  have e2 : IntKind.wrap .i64 ((s.length : Int) + 1) = ((s.length + 1 : Nat) : Int) := cI (by omega)
  rw [e1, e2]
  have e3 : (if ((s.length + 1 : Nat) : Int) < ((s.count 47 + 1 : Nat) : Int) then ((s.length + 1 : Nat) : Int) else ((s.count 47 + 1 : Nat) : Int)) = ((s.count 47 + 1 : Nat) : Int) := by rw [if_neg (by omega)]
  have e4 : IntKind.wrap .i64 (((s.count 47 + 1 : Nat) : Int) - 1) = ((s.count 47 : Nat) : Int) := by rw [w64 (by omega) (by omega)]; omega
  simp only [e3]
  rw [aK (by simp; omega), e4, Int.toNat_natCast]
  have := axl (s.count 47) (by omega) (s.count 47) 0 fuel s [] (by omega) (by rw [iK]; omega) rfl (by omega) rfl
  simp only [List.nil_append] at this
  rw [show ((0 : Nat) : Int) = 0 from rfl] at this
  rw [this]; rfl
 unfold xM
 rw [dA hsplit]
def ai5 (l : Str) (one last : Bool) : Bool := (l.contains 43 && !one) || (l.contains 35 && (!one || !last))
def adx : List Str → Bool
 | [] => true
 | lv :: r => !(ai5 lv (decide (lv.length = 1)) r.isEmpty) && adx r
def pS (s : Str) : Bool := sizedB s && adx (dG s)
theorem aw6 (k6 : (List Str) → Bool → (List Str) → Int → Int → Option Bool) (x3 x15 : List Str) (x4 : Bool) (x16 : Int) (lv : Str) (i : Nat) (hi : i < x3.length) (hx : x3.length < 1000000) :
  ∀ (k j fu : Nat), lv.length - j ≤ k → k < fu → iF fu k6 x3 x4 (i : Int) lv x15 x16 (i : Int) lv j =
   if ai5 (lv.drop j) (decide (lv.length = 1)) (decide (i + 1 = x3.length)) = true then some false else k6 x3 x4 x15 x16 ((i + 1 : Nat) : Int) := by
 intro k
 have hw : IntKind.wrap .i64 ((x3.length : Int) - 1) = ((x3.length - 1 : Nat) : Int) := by rw [w64 (by omega) (by omega)]; omega
 induction k with
 | zero =>
  intro j fu hj hf
  obtain ⟨fu, rfl⟩ : ∃ n, fu = n + 1 := ⟨fu - 1, by omega⟩
  rw [iF, aR (by simp; omega), List.drop_eq_nil_of_le (by omega), cI (by omega)]; simp [ai5]
 | succ k ih =>
  intro j fu hj hf
  obtain ⟨fu, rfl⟩ : ∃ n, fu = n + 1 := ⟨fu - 1, by omega⟩
  by_cases h : j < lv.length
  ·rw [iF, aK (by simpa using h), hw]
   by_cases lo : lv[j].toNat < 128
   ·rw [amA h lo]
    simp only
    rw [ih (j + 1) fu (by omega) (by omega), List.drop_eq_getElem_cons h]
    have ev : (!((lv.length : Int) == 1)) = !(decide (lv.length = 1)) := by rw [Bool.eq_iff_iff]; simp; omega
    have el : decide ((i : Int) < ((x3.length - 1 : Nat) : Int)) = !(decide (i + 1 = x3.length)) := by rw [Bool.eq_iff_iff]; simp; omega
    rw [ev, el]
    unfold ai5
    rw [List.contains_cons, List.contains_cons]
    by_cases c0 : lv[j].toNat = 43
    ·have e : lv[j] = 43 := UInt8.toNat.inj (by simpa using c0)
     rw [aK (by simp; omega), e]
     cases hd1 : decide (lv.length = 1)
     ·rw [aK (by rfl)]; simp
     ·rw [aR (by rfl), aR (by decide)]; simp
    ·have e : (43 == lv[j]) = false := by simp; intro h; rw [← h] at c0; simp at c0
     rw [aR (by simp; omega), e, Bool.false_or]
     by_cases c1 : lv[j].toNat = 35
     ·have e1 : lv[j] = 35 := UInt8.toNat.inj (by simpa using c1)
      rw [aK (by simp; omega), e1]
      cases decide (lv.length = 1) <;> cases decide (i + 1 = x3.length) <;> simp
     ·have e1 : (35 == lv[j]) = false := by simp; intro h; rw [← h] at c1; simp at c1
      rw [aR (by simp; omega), e1, Bool.false_or]
   ·obtain ⟨t, ht, hh⟩ := alx h (by omega)
    have hd := aiT h (by omega)
    rw [aR (by simp; omega), aR (by simp; omega), ih (j + (dec lv j).2) fu (by omega) (by omega), ht]
    unfold ai5
    rw [wH hh (by decide), wH hh (by decide)]
  ·rw [iF, aR (by simpa using h), List.drop_eq_nil_of_le (by omega), cI (by omega)]; simp [ai5]
theorem avu (l : List Str) (hl : l.length < 1000000) (hlv : ∀ x ∈ l, x.length < 1000000) : ∀ (k i fu : Nat), i + k = l.length → k < fu → nG fu l true l (l.length : Int) (i : Int) = some (adx (l.drop i)) := by
 intro k
 induction k with
 | zero =>
  intro i fu hi hf
  obtain ⟨fu, rfl⟩ : ∃ n, fu = n + 1 := ⟨fu - 1, by omega⟩
  rw [nG, aR (o6 (by omega)), List.drop_eq_nil_of_le (by omega)]; rfl
 | succ k ih =>
  intro i fu hi hf
  obtain ⟨fu, rfl⟩ : ∃ n, fu = n + 1 := ⟨fu - 1, by omega⟩
  have h : i < l.length := by omega
  have hx := hlv _ (List.getElem_mem h)
  rw [nG, aK (jD h), aK (inr h), cQ h, aw6 _ l l true _ l[i] i h hl l[i].length 0 fuel (by omega) (by rw [iK]; omega), List.drop_zero, List.drop_eq_getElem_cons h, adx]
  have el : decide (i + 1 = l.length) = (l.drop (i + 1)).isEmpty := by rw [Bool.eq_iff_iff]; simp; omega
  rw [el]
  cases ai5 l[i] (decide (l[i].length = 1)) (l.drop (i + 1)).isEmpty
  ·simp only [Bool.false_eq_true, if_false]
   rw [ih (i + 1) fu (by omega) (by omega)]; simp
  ·simp
theorem ahR : ∀ (s : Str), ∀ x ∈ dG s, x.length ≤ s.length
 | [], x, hx => by simp [dG] at hx; subst hx; simp
 | b :: r, x, hx => by
  have ih := ahR r
  simp only [dG] at hx
  split at hx
  ·rcases List.mem_cons.1 hx with rfl | hx
   ·simp
   ·have := ih x hx; simp; omega
  ·cases hr : dG r with
   | nil => exact absurd hr (abl r)
   | cons y t =>
    rw [hr] at hx ih
    rcases List.mem_cons.1 hx with rfl | hx
    ·have := ih y List.mem_cons_self; simp; omega
    ·have := ih x (List.mem_cons_of_mem _ hx); simp; omega
theorem filter_eq (s : Str) : uI s = some (pS s) := by
 unfold uI pS
 rw [dA (aq5 s)]
 cases h : sizedB s
 ·rw [aK (by rfl)]; rfl
 ·have hl := adg h
  have hc : s.count 47 ≤ s.length := List.count_le_length
  have hn := ab2 s
  rw [aR (by rfl), dA (atT s (by omega))]
  have := avu (dG s) (by omega) (fun x hx => by have := ahR s x hx; omega) (dG s).length 0 fuel (by omega) (by rw [iK]; omega)
  rw [show ((0 : Nat) : Int) = 0 from rfl] at this
  rw [this]; simp
theorem auW {l : Str} {c : UInt8} (h : l.contains c = true) : decide (l.length = 1) = (l == [c]) := by
 rw [Bool.eq_iff_iff]
 simp only [decide_eq_true_eq, beq_iff_eq]
 constructor
 ·intro h1
  match l, h1, h with
  | [x], _, h => simp at h; simp [h]
 ·rintro rfl; rfl
theorem asA (k5 : Int → (List Str) → Option Bool) (l : List Str) (hl : l.length < 1000000) (i : Nat) (h : i < l.length) (hx : l[i].length < 1000000) :
  kC k5 (i : Int) l = if (l[i].contains 35 && (!(decide (l[i].length = 1)) || !((l.drop (i + 1)).isEmpty))) = true then some false else k5 ((i + 1 : Nat) : Int) l := by
 have hw : IntKind.wrap .i64 ((l.length : Int) - 1) = ((l.length - 1 : Nat) : Int) := by rw [w64 (by omega) (by omega)]; omega
 unfold kC
 rw [aK (inr h), cQ h, dA (aiO l[i] (by omega) 35 (n := 35) rfl), cI (by omega)]
 cases h1 : l[i].contains 35
 ·rw [aR (by rfl)]; simp
 ·rw [aK (by rfl), aK (inr h), ← auW h1, hw]
  have el : ((i : Int) != ((l.length - 1 : Nat) : Int)) = !((l.drop (i + 1)).isEmpty) := by rw [Bool.eq_iff_iff]; simp; omega
  rw [el]
  cases decide (l[i].length = 1) <;> cases (l.drop (i + 1)).isEmpty <;> simp
theorem asR (l : List Str) (hl : l.length < 1000000) (hlv : ∀ x ∈ l, x.length < 1000000) : ∀ (k i fu : Nat), i + k = l.length → k < fu → gY fu (i : Int) l = some (adx (l.drop i)) := by
 intro k
 induction k with
 | zero =>
  intro i fu hi hf
  obtain ⟨fu, rfl⟩ : ∃ n, fu = n + 1 := ⟨fu - 1, by omega⟩
  rw [gY, aR (o6 (by omega)), List.drop_eq_nil_of_le (by omega)]; rfl
 | succ k ih =>
  intro i fu hi hf
  obtain ⟨fu, rfl⟩ : ∃ n, fu = n + 1 := ⟨fu - 1, by omega⟩
  have h : i < l.length := by omega
  have hx := hlv _ (List.getElem_mem h)
  rw [gY, aK (jD h), aK (inr h), cQ h, dA (aiO l[i] (by omega) 43 (n := 43) rfl), asA _ l hl i h hx, ih (i + 1) fu (by omega) (by omega), List.drop_eq_getElem_cons h, adx]
  unfold ai5
  cases h1 : l[i].contains 43
  ·rw [aR (by rfl)]
   simp only [Bool.false_and, Bool.false_or]
   cases (l[i].contains 35 && (!(decide (l[i].length = 1)) || !((l.drop (i + 1)).isEmpty))) <;> simp
  ·rw [aK (by rfl), aK (inr h), ← auW h1]
   cases h2 : decide (l[i].length = 1)
   ·rw [aK (by rfl)]; simp
   ·rw [aR (by rfl)]
    cases (l[i].contains 35) <;> cases ((l.drop (i + 1)).isEmpty) <;> simp
theorem aif (s : Str) : mH s = some (pS s) := by
 unfold mH pS
 rw [dA (aja s)]
 cases h : sizedB s
 ·rw [aK (by rfl)]; rfl
 ·have hl := adg h
  have hc : s.count 47 ≤ s.length := List.count_le_length
  have hn := ab2 s
  rw [aR (by rfl), dA (ah5 s (by omega))]
  have := asR (dG s) (by omega) (fun x hx => by have := ahR s x hx; omega) (dG s).length 0 fuel (by omega) (by rw [iK]; omega)
  rw [show ((0 : Nat) : Int) = 0 from rfl] at this
  rw [this]; simp
abbrev zR : Str := [36, 115, 104, 97, 114, 101, 47]
def oI (s p : Str) : Bool := decide (p.length ≤ s.length) && (s.take p.length == p)
theorem aeF (s p : Str) : j8 s p = some (oI s p) := by
 unfold j8 oI
 by_cases h : p.length ≤ s.length
 ·rw [aK (by simp; omega), aK (by simp; omega)]; simp [cF, h]
 ·rw [aR (by simp; omega)]; simp [h]
theorem ajN (s p : Str) : mF s p = some (oI s p) := aeF s p
theorem aia (s p : Str) : nU s p = some (oI s p) := by
 unfold nU; rw [dA (aeF s p)]
theorem aqV (s p : Str) : qK s p = some (if oI s p = true then (s.drop p.length, true) else (s, false)) := by
 unfold qK pQ
 rw [dA (aeF s p)]
 cases h : oI s p
 ·rw [aK (by rfl)]; rfl
 ·have hl : p.length ≤ s.length := by simp only [oI, Bool.and_eq_true, decide_eq_true_eq] at h; exact h.1
  rw [aR (by rfl), aK (by simp; omega)]; simp [cF]
theorem ayZ (s : Str) (hs : s.length < 1000000000000000) : zX s ([47] : Str) = some (if Lib.indexByte s 47 = -1 then (s, [], false) else (s.take (Lib.indexByte s 47).toNat, s.drop ((Lib.indexByte s 47).toNat + 1), true)) := by
 have hi : lA s ([47] : Str) = some (Lib.indexByte s 47) := by
  have := ak6 s
  unfold n6 at this
  cases h : lA s ([47] : Str) with
  | none => rw [h] at this; cases this
  | some v => rw [h] at this; exact this
 unfold zX w9
 rw [dA hi]
 rcases aeo 47 s with ⟨h1, h2⟩ | ⟨m, h1, h2, h3, h4⟩
 ·rw [h1, aR (by rfl)]; rfl
 ·have e2 : IntKind.wrap .i64 ((m : Int) + (List.length ([47] : Str) : Int)) = ((m + 1 : Nat) : Int) := cI (by omega)
  rw [h1, aK (by simp), aK (by simp; omega), e2, aK (by simp; omega), if_neg (by omega)]
  simp [cF]
def sQ (s : Str) : Option (Str × Str) :=
 if oI s zR = true then
  (if Lib.indexByte (s.drop 7) 47 = -1 then none
  else if (mO ((s.drop 7).take (Lib.indexByte (s.drop 7) 47).toNat) && pS ((s.drop 7).drop ((Lib.indexByte (s.drop 7) 47).toNat + 1)) && !(oI ((s.drop 7).drop ((Lib.indexByte (s.drop 7) 47).toNat + 1)) zR)) = true then
   some ((s.drop 7).take (Lib.indexByte (s.drop 7) 47).toNat, (s.drop 7).drop ((Lib.indexByte (s.drop 7) 47).toNat + 1)) else none)
 else none
def uP (o : Option (Str × Str)) : Str × Str × Bool := match o with | some (g, f) => (g, f, true) | none => ([], [], false)
theorem at2 (s : Str) (hs : s.length < 1000000000000000) : xH s = some (uP (sQ s)) := by
 unfold xH sQ
 rw [dA (aqV s zR)]
 cases h : oI s zR
 ·rw [aK (by rfl)]; rfl
 ·simp only [if_true]
  have e7 : s.drop zR.length = s.drop 7 := rfl
  rw [aR (by rfl), e7, dA (ayZ (s.drop 7) (by simp; omega))]
  by_cases h1 : Lib.indexByte (s.drop 7) 47 = -1
  ·rw [if_pos h1, if_pos h1, aK (by rfl)]; rfl
  ·rw [if_neg h1, if_neg h1, aR (by rfl)]
   rw [dA (ag5 _ (by simp; omega))]
   cases mO ((s.drop 7).take (Lib.indexByte (s.drop 7) 47).toNat)
   ·rw [aK (by rfl)]; simp [uP]
   ·rw [aR (by rfl), dA (filter_eq _)]
    cases pS ((s.drop 7).drop ((Lib.indexByte (s.drop 7) 47).toNat + 1))
    ·rw [aK (by rfl)]; simp [uP]
    ·rw [aR (by rfl), dA (aia _ _)]
     cases oI ((s.drop 7).drop ((Lib.indexByte (s.drop 7) 47).toNat + 1)) zR
     ·rw [aR (by rfl)]; simp [uP]
     ·rw [aK (by rfl)]; simp [uP]
def ag0 (s : Str) : Nat := if Lib.indexByte s 47 = -1 then s.length else (Lib.indexByte s 47).toNat
theorem aq9 (s : Str) (hs : s.length < 1000000000000000) : ∀ (k i fu : Nat), i + k = s.length → k < fu → iU fu s (i : Int) = kA s ((i + ag0 (s.drop i) : Nat) : Int) := by
 intro k
 induction k with
 | zero =>
  intro i fu hi hf
  obtain ⟨fu, rfl⟩ : ∃ n, fu = n + 1 := ⟨fu - 1, by omega⟩
  rw [iU, aR (o6 (by omega)), List.drop_eq_nil_of_le (by omega)]; simp [ag0, Lib.indexByte]
 | succ k ih =>
  intro i fu hi hf
  obtain ⟨fu, rfl⟩ : ∃ n, fu = n + 1 := ⟨fu - 1, by omega⟩
  have h : i < s.length := by omega
  rw [iU, aK (jD h), aK (inr h), agY h, List.drop_eq_getElem_cons h]
  by_cases c : s[i].toNat = 47
  ·have e : s[i] = 47 := UInt8.toNat.inj (by simpa using c)
   rw [aR (by simp; omega), e]; simp [ag0, Lib.indexByte]
  ·have e : (s[i] == 47) = false := by simp; intro h; rw [h] at c; simp at c
   rw [aK (by simp; omega), cI (by omega), ih (i + 1) fu (by omega) (by omega)]
   congr 2
   unfold ag0
   rw [Lib.indexByte, e]
   simp only [Bool.false_eq_true, if_false]
   rcases aeo 47 (s.drop (i + 1)) with ⟨h1, h2⟩ | ⟨m, h1, h2, h3, h4⟩
   ·rw [h1]; simp <;> omega
   ·have h5 : ((m : Int) == -1) = false := by simp
    rw [h1, h5]; simp only [Bool.false_eq_true, if_false]; rw [if_neg (by omega), if_neg (by omega)]; omega
theorem ah3 (s : Str) (hs : s.length < 1000000000000000) : mC s = some (uP (sQ s)) := by
 unfold mC sQ
 rw [dA (ajN s zR)]
 cases h : oI s zR
 ·rw [aK (by rfl)]; rfl
 ·have hl : 7 ≤ s.length := by simp only [oI, Bool.and_eq_true, decide_eq_true_eq] at h; exact h.1
  have e7 : cF s (some 7) none = s.drop 7 := rfl
  simp only [if_true]
  rw [aR (by rfl), aK (by simp; omega), e7]
  have hj := aq9 (s.drop 7) (by simp; omega) (s.drop 7).length 0 fuel (by omega) (by rw [iK]; simp; omega)
  rw [show ((0 : Nat) : Int) = 0 from rfl, List.drop_zero, Nat.zero_add] at hj
  rw [hj]
  unfold kA ag0
  rcases aeo 47 (s.drop 7) with ⟨h1, h2⟩ | ⟨m, h1, h2, h3, h4⟩
  ·rw [h1, if_pos rfl, if_pos rfl, aK (by simp)]; rfl
  ·have e1 : cF (s.drop 7) none (some (m : Int)) = (s.drop 7).take m := by simp [cF]
   have e2 : cF (s.drop 7) (some ((m + 1 : Nat) : Int)) none = (s.drop 7).drop (m + 1) := by simp only [cF, Int.toNat_natCast]
   have hlt : m < s.length - 7 := by simpa using h2
   rw [h1, if_neg (by omega), if_neg (by omega), Int.toNat_natCast, aR (by simp; omega), aK (by simp; omega), e1, dA (aad _ (by simp; omega))]
   cases mO ((s.drop 7).take m)
   ·rw [aK (by rfl)]; simp [uP]
   ·rw [aR (by rfl), cI (by omega), aK (by simp; omega), e2, dA (aif _)]
    cases pS ((s.drop 7).drop (m + 1))
    ·rw [aK (by rfl)]; simp [uP]
    ·rw [aR (by rfl), aK (by simp; omega), dA (ajN _ _)]
     cases oI ((s.drop 7).drop (m + 1)) zR
     ·rw [aR (by rfl)]
      unfold pW
      rw [aK (by simp; omega), cI (by omega), aK (by simp; omega), e1, e2]
      simp [uP]
     ·rw [aK (by rfl)]; simp [uP]
def mD (s : Str) : Bool := (sQ s).isSome || pS s && !(oI s zR)
theorem ahY (o : Option (Str × Str)) : (uP o).2.2 = o.isSome := by cases o <;> rfl
theorem ah4 (s : Str) (hs : s.length < 1000000000000000) : mG s = some (mD s) := by
 unfold mG mD
 rw [dA (ah3 s hs), ahY]
 cases (sQ s).isSome
 ·rw [aR (by rfl), dA (aif s)]
  cases pS s
  ·rw [aR (by rfl)]; rfl
  ·rw [aK (by rfl), dA (ajN _ _)]; rfl
 ·rw [aK (by rfl)]; rfl
end Md
end PX
set_option linter.unusedVariables false
set_option linter.unusedSimpArgs false
namespace PX
open Go
namespace Md
theorem aqv (x y : aE) : (x.Key == y.Key && (x.Value == y.Value && true)) = decide (x = y) := by
 cases x; cases y; rw [Bool.eq_iff_iff]; simp
theorem aaF {α : Type} {a b : List α} (h : a.length = b.length) : ((a.length : Int) == (b.length : Int)) = true := by rw [h]; simp
theorem aaG {α : Type} {a b : List α} (h : ¬ a.length = b.length) : ((a.length : Int) == (b.length : Int)) = false := by simp; omega
theorem aa9 (a b : aF) (ha : a.Props.length < 1000000000000000) : pG a b = some (decide (a = b)) := by
 have hj : a.Props.length = b.Props.length → w8 a b = some (decide (a.Props = b.Props)) := by
  intro hl
  exact vF (F := fun fu i => nE fu a.Props (a.Props.length : Int) i b) hl
   (fun fu => by rw [nE, aR (o6 (by omega))])
   (fun fu i h h' => by rw [nE, aK (jD h), aK (inr h), aK (inr h'), cQ h, cQ h', cI (by omega), fM, aqv]) (by omega)
 unfold pG
 obtain ⟨a1, a2, a3, a4, a5, a6, a7, a8, a9⟩ := a
 obtain ⟨b1, b2, b3, b4, b5, b6, b7, b8, b9⟩ := b
 simp only at hj ha ⊢
 simp only [aF.mk.injEq]
 by_cases hl : a9.length = b9.length
 ·rw [hj hl]
  simp only [fM, eT, aaF hl, hX, abt, ahs]
 ·simp only [fM, eT, aaG hl, jE, abt, axe]
  symm
  simp; rintro - - - - - - - - rfl; exact hl rfl
theorem apR (a b : List aE) (ha : a.length < 1000000000000000) : mJ a b = some (decide (a = b)) := by
 unfold mJ
 by_cases hl : a.length = b.length
 ·rw [eT, aK (aaF hl)]
  exact vF (F := fun fu i => gL fu a b i) hl
   (fun fu => by rw [gL, aR (o6 (by omega))])
   (fun fu i h h' => by rw [gL, aK (jD h), aK (inr h), aK (inr h'), cQ h, cQ h', cI (by omega), fM, aqv]) (by omega)
 ·rw [eT, aR (aaG hl)]
  symm; simp; rintro rfl; exact hl rfl
theorem af7 (a b : aF) (ha : a.Props.length < 1000000000000000) : lY a b = some (decide (a = b)) := by
 unfold lY
 obtain ⟨a1, a2, a3, a4, a5, a6, a7, a8, a9⟩ := a
 obtain ⟨b1, b2, b3, b4, b5, b6, b7, b8, b9⟩ := b
 simp only at ha ⊢
 simp only [aF.mk.injEq, apR a9 b9 ha, m7, abt, ahs]
def adK (s : Str) : Bool := rngB 1 16 s.length && s.all sR
theorem aob (b : UInt8) : sR b = decide ((97 ≤ b.toNat ∧ b.toNat ≤ 122) ∨ (48 ≤ b.toNat ∧ b.toNat ≤ 57) ∨ b.toNat = 45) := by
 rw [Bool.eq_iff_iff]; simp only [sR, abU, ajK, Bool.or_eq_true, Bool.and_eq_true, decide_eq_true_eq, or_assoc]
theorem anT (s : Str) : zY s = some (adK s) := by
 unfold zY adK
 simp only [vN]
 simp only [fM, acn, ae8, hX, jE, eT, acY, afC, tH, aT, xQ, m7, aaL, aa7, aft, vN, afH, afa, vM]
 cases hr : rngB 1 16 s.length
 ·rfl
 ·rw [m9] at hr
  rw [hX, hX]
  unfold yY
  refine sY (F := fun fu i => gI fu s i) (g := fun r => some (r.all sR)) (fun fu => by rw [gI, aR (o6 (by omega))]; rfl) (fun fu i h ih => ?_) (by omega)
  rw [gI, aK (jD h), aK (inr h), agY h, cI (by omega), ih, List.all_cons, vN, aob]
  simp only [fM, acn, ae8, hX, jE, eT, acY, afC, tH, aT, xQ, m7, aaL, aa7, aft, vN, afH, afa, abt]
  simp only [Bool.cond_decide]; (repeat' split) <;> first | rfl | omega
theorem atw (s : Str) : tC s = some (adK s) := by
 unfold tC adK
 simp only [vN]
 simp only [fM, acn, ae8, hX, jE, eT, acY, afC, tH, aT, xQ, m7, aaL, aa7, aft, vN, afH, afa, vM]
 cases hr : rngB 1 16 s.length
 ·rfl
 ·rw [m9] at hr
  rw [hX, hX]
  unfold sZ
  refine sY (F := fun fu i => eG fu s i) (g := fun r => some (r.all sR)) (fun fu => by rw [eG, aR (o6 (by omega))]; rfl) (fun fu i h ih => ?_) (by omega)
  rw [eG, aK (jD h), aK (inr h), agY h, cI (by omega), ih, List.all_cons, vN, aob]
  simp only [fM, acn, ae8, hX, jE, eT, acY, afC, tH, aT, xQ, m7, aaL, aa7, aft, vN, afH, afa, abt]
  simp only [Bool.cond_decide]; (repeat' split) <;> first | rfl | omega
end Md
end PX
set_option linter.unusedVariables false
set_option linter.unusedSimpArgs false
namespace PX
open Go
namespace Md
theorem aii (x b : Int) : qO x b = some (rngB 0 b x) := by
 unfold qO rngB
 simp only [vN, aa7]
def aBm : Option Str → Str → Bool
 | none, _ => false
 | some k, s => Op.bytesLess s k || s == k
def wG : Option Str → List aE → Int
 | _, [] => 0
 | k, x :: r => cond (adK x.Key) (cond (decide (160 < x.Value.length)) 5 (cond (aBm k x.Key) 16 (wG (some x.Key) r))) 16
def vZ (l : List aE) : Int := cond (decide (8 < l.length)) 5 (wG none l)
theorem cW {α : Type} (b : Bool) (x y : α) : some (cond b x y) = cond b (some x) (some y) := by cases b <;> rfl
theorem aek (l : List aE) : sO l = some (vZ l) := by
 unfold sO vZ
 rw [cW]
 by_cases hl : l.length > 8
 ·rw [aK (by simp; omega), aK (by simp; omega)]
 ·rw [aR (by simp; omega), aR (by simp; omega)]
  have := aaK (n := l.length) (F := fun fu i (_ : Unit) => kK fu l l (l.length : Int) i) (G := fun i _ => some (wG (if i = 0 then none else some (l.getD (i - 1) default).Key) (l.drop i))) (fun _ _ => True)
   (fun fu s _ => by rw [kK, aR (o6 (by omega)), List.drop_length]; rfl)
   (fun fu i s h _ ih => by
    have ih := ih () trivial
    rw [kK, aK (jD h), aK (inr h), cQ h, dA (anT _), cI (by omega), ih, List.drop_eq_getElem_cons h, wG, if_neg (by omega)]
    simp only [cW, fM, tH, Nat.add_sub_cancel]
    rw [ako h]
    congr 1
    have e : decide (160 < (l[i].Value.length : Int)) = decide (160 < l[i].Value.length) := by rw [Bool.eq_iff_iff]; simp; omega
    rw [e]
    congr 1
    by_cases hz : i = 0
    ·subst hz; rw [aR (by simp), if_pos rfl]; rfl
    ·have e2 : IntKind.wrap .i64 ((i : Int) - 1) = ((i - 1 : Nat) : Int) := by rw [w64 (by omega) (by omega)]; omega
     rw [aK (by simp; omega), e2, aK (inr (by omega)), Int.toNat_natCast, if_neg hz]; rfl)
   (by omega) () trivial
  simpa using this
theorem ajf (l : List aE) : qI l = some (vZ l) := by
 unfold qI vZ
 rw [cW]
 by_cases hl : l.length > 8
 ·rw [aK (by simp; omega), aK (by simp; omega)]
 ·rw [aR (by simp; omega), aR (by simp; omega)]
  have := aaK (n := l.length) (F := fun fu i (_ : Unit) => iE fu l i) (G := fun i _ => some (wG (if i = 0 then none else some (l.getD (i - 1) default).Key) (l.drop i))) (fun _ _ => True)
   (fun fu s _ => by rw [iE, aR (o6 (by omega)), List.drop_length]; rfl)
   (fun fu i s h _ ih => by
    have ih := ih () trivial
    rw [iE, aK (jD h), aK (inr h), cQ h, dA (atw _), cI (by omega), ih, List.drop_eq_getElem_cons h, wG, if_neg (by omega)]
    simp only [cW, fM, tH, Nat.add_sub_cancel]
    rw [ako h]
    congr 1
    have e : decide (160 < (l[i].Value.length : Int)) = decide (160 < l[i].Value.length) := by rw [Bool.eq_iff_iff]; simp; omega
    rw [e, aK (inr h)]
    congr 1
    by_cases hz : i = 0
    ·subst hz; rw [aR (by simp), if_pos rfl]; rfl
    ·have e2 : IntKind.wrap .i64 ((i : Int) - 1) = ((i - 1 : Nat) : Int) := by rw [w64 (by omega) (by omega)]; omega
     rw [aK (by simp; omega), aK (inr h), e2, aK (inr (by omega)), Int.toNat_natCast, if_neg hz]; rfl)
   (by omega) () trivial
  simpa using this
def jY (m : aF) : Int := cond (xZ m.Topic) (cond (decide (256 < (m.Payload.length : Int))) 5 (cond (rngB 0 2 m.Level) (cond (rngB 0 9 m.Priority) (cond (rngB 0 1099511627776 m.Expires)
 (cond (m.From == []) (cond (rngB 0 1099511627776 m.Seq) (vZ m.Props) 1) (cond (mO m.From) (cond (rngB 0 1099511627776 m.Seq) (vZ m.Props) 1) 11)) 1) 1) 14)) 12
theorem adP (m : aF) (hm : m.From.length < 1000000000000000) : jO m = some (jY m) := by
 simp only [jO, jY, cW, aq0, aii, ag5 _ hm, aek, fM, acn, ae8, hX, jE, eT, acY, afC, tH, aT, xQ, m7, aaL, aa7, aft, vN, afH, afa]
theorem aiP (m : aF) (hm : m.From.length < 1000000000000000) : jU m = some (jY m) := by
 simp only [jU, nH, nF, j6, jY, cW, ajE, aad _ hm, ajf, fM, acn, ae8, hX, jE, eT, acY, afC, tH, aT, xQ, m7, aaL, aa7, aft, vN, afH, afa, vM]
end Md
end PX
