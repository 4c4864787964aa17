import Derived.Test.YtojlmojebnlmdaaGreatDoorTopicA
set_option linter.unusedVariables false
set_option linter.unusedSimpArgs false
namespace PX
open Go
namespace Md
theorem drop_nil {α : Type} (l : List α) (n : Nat) (h : l.length ≤ n) : l.drop n = [] := List.drop_eq_nil_of_le h
theorem afH {s : Str} {i : Nat} (h : i < s.length) : List.getD s (Int.toNat (i : Int)) 0 = s[i] := by rw [Int.toNat_natCast, aiO h]
theorem an9 (b : UInt8) : mV (UInt8.toNat b : Int) = some (aa8 b) := by
 unfold mV aa8
 by_cases c : 97 ≤ b.toNat
 ·rw [aN (by simp; omega)]
  have e : decide (97 ≤ b.toNat) = true := by simpa using c
  rw [e, Bool.true_and]; congr 1; simp <;> omega
 ·rw [aT (by simp; omega)]
  have e : decide (97 ≤ b.toNat) = false := by simpa using c
  rw [e, Bool.false_and]
theorem aup (b : UInt8) : pJ (UInt8.toNat b : Int) = some (ahZ b) := by
 unfold pJ ahZ
 by_cases c : 48 ≤ b.toNat
 ·rw [aN (by simp; omega)]
  have e : decide (48 ≤ b.toNat) = true := by simpa using c
  rw [e, Bool.true_and]; congr 1; simp <;> omega
 ·rw [aT (by simp; omega)]
  have e : decide (48 ≤ b.toNat) = false := by simpa using c
  rw [e, Bool.false_and]
theorem arC (s : Str) (hl : s.length < 1000000000000000) : ∀ (k i fu : Nat), i + k = s.length → k < fu → fJ fu s (i : Int) = some ((s.drop i).all sQ) := by
 intro k
 induction k with
 | zero =>
  intro i fu hi hf
  obtain ⟨fu, rfl⟩ : ∃ n, fu = n + 1 := ⟨fu - 1, by omega⟩
  rw [fJ, aT (lU (by omega)), List.drop_eq_nil_of_le (by omega)]; rfl
 | succ k ih =>
  intro i fu hi hf
  obtain ⟨fu, rfl⟩ : ∃ n, fu = n + 1 := ⟨fu - 1, by omega⟩
  have h : i < s.length := by omega
  rw [fJ, aN (dU h), aN (inr h), afH h, cR (an9 _), aoW h, bM (by omega), ih (i + 1) fu (by omega) (by omega)]
  unfold sQ
  cases c1 : aa8 s[i]
  ·rw [aN (by rfl), aN (inr h), cR (aup _)]
   cases c2 : ahZ s[i]
   ·rw [aN (by rfl), aN (inr h)]
    by_cases c3 : s[i].toNat = 45
    ·rw [aT (by simp; omega)]; simp [c3]
    ·rw [aN (by simp; omega)]; simp [c3]
   ·rw [aT (by rfl)]; simp
  ·rw [aT (by rfl)]; simp
theorem vF (s : Str) (hl : s.length < 1000000000000000) : gD s = some (lN s) := by
 unfold gD lN
 by_cases c1 : s.length < 1
 ·rw [aN (by simp; omega)]; simp; omega
 ·rw [aT (by simp; omega)]
  by_cases c2 : s.length > 16
  ·rw [aN (by simp; omega)]; simp; omega
  ·have e1 : decide (1 ≤ s.length) = true := by simp; omega
   have e2 : decide (s.length ≤ 16) = true := by simp; omega
   rw [aT (by simp; omega), aN (by simp; omega), cR (an9 _), e1, e2]
   have e3 : List.getD s (Int.toNat 0) 0 = s.getD 0 0 := rfl
   rw [e3]
   cases c3 : aa8 (s.getD 0 0)
   ·rw [aN (by rfl)]; simp
   ·rw [aT (by rfl)]
    unfold rR
    have := arC s hl s.length 0 fuel (by omega) (by rw [fQ]; omega)
    rw [show ((0 : Nat) : Int) = 0 from rfl] at this
    rw [this]; simp
theorem aCy (s : Str) (hl : s.length < 1000000000000000) (c : UInt8) : ∀ (k i fu : Nat), i + k = s.length → k < fu → jN fu s (c.toNat : Int) (i : Int) = some ((s.drop i).contains c) := by
 intro k
 induction k with
 | zero =>
  intro i fu hi hf
  obtain ⟨fu, rfl⟩ : ∃ n, fu = n + 1 := ⟨fu - 1, by omega⟩
  rw [jN, aT (lU (by omega)), List.drop_eq_nil_of_le (by omega)]; rfl
 | succ k ih =>
  intro i fu hi hf
  obtain ⟨fu, rfl⟩ : ∃ n, fu = n + 1 := ⟨fu - 1, by omega⟩
  have h : i < s.length := by omega
  rw [jN, aN (dU h), aN (inr h), afH h, bM (by omega), ih (i + 1) fu (by omega) (by omega), List.drop_eq_getElem_cons h, List.contains_cons]
  by_cases e : s[i] = c
  ·rw [aN (by simp [e])]; simp [e]
  ·have e2 : ¬ s[i].toNat = c.toNat := fun h => e (UInt8.toNat.inj h)
   rw [aT (by simp; omega)]
   have e3 : (c == s[i]) = false := by simp; exact fun h => e h.symm
   simp [e3]
theorem ah7 (s : Str) (hl : s.length < 1000000000000000) (c : UInt8) {n : Int} (hn : n = (c.toNat : Int)) : iZ s n = some (s.contains c) := by
 subst hn
 have := aCy s hl c s.length 0 fuel (by omega) (by rw [fQ]; omega)
 simpa [iZ] using this
def sizedB (s : Str) : Bool := decide (1 ≤ s.length) && decide (s.length ≤ 64) && !(s.contains 0) && decide (s.count 47 + 1 ≤ 8)
theorem av7 (s : Str) : ∀ (k i fu c : Nat), s.length - i ≤ k → k < fu → c + k < 1000000000 → jU fu (c : Int) s i = some (!((s.drop i).contains 0) && decide (c + (s.drop i).count 47 ≤ 8)) := by
 intro k
 induction k with
 | zero =>
  intro i fu c hi hf hc
  obtain ⟨fu, rfl⟩ : ∃ n, fu = n + 1 := ⟨fu - 1, by omega⟩
  have ec : decide ((c : Int) ≤ 8) = decide (c ≤ 8) := by rw [decide_eq_decide]; omega
  rw [jU, aT (by simp; omega), List.drop_eq_nil_of_le (by omega), ec]; simp <;> exact decide_eq_decide.2 Iff.rfl
 | succ k ih =>
  intro i fu c hi hf hc
  obtain ⟨fu, rfl⟩ : ∃ n, fu = n + 1 := ⟨fu - 1, by omega⟩
  by_cases h : i < s.length
  ·rw [jU, aN (by simpa using h)]
   by_cases lo : s[i].toNat < 128
   ·rw [ake h lo, List.drop_eq_getElem_cons h, List.contains_cons, List.count_cons]
    simp only
    by_cases c0 : s[i].toNat = 0
    ·have e : s[i] = 0 := UInt8.toNat.inj (by simpa using c0)
     rw [aN (by simp; omega)]; simp [e]
    ·have e : (0 == s[i]) = false := by simp; intro h; rw [← h] at c0; simp at c0
     rw [aT (by simp; omega), e, Bool.false_or]
     by_cases c1 : s[i].toNat = 47
     ·have e1 : s[i] = 47 := UInt8.toNat.inj (by simpa using c1)
      rw [aN (by simp; omega), bM (by omega), ih (i + 1) fu (c + 1) (by omega) (by omega) (by omega)]
      simp only [e1, beq_self_eq_true, if_true]
      rw [show c + 1 + List.count 47 (List.drop (i + 1) s) = c + (List.count 47 (List.drop (i + 1) s) + 1) by omega]
     ·have e1 : (s[i] == 47) = false := by simp; intro h; rw [h] at c1; simp at c1
      rw [aT (by simp; omega), ih (i + 1) fu c (by omega) (by omega) (by omega)]
      simp [e1]
   ·obtain ⟨t, ht, hh⟩ := ajq h (by omega)
    have hd := ail h (by omega)
    rw [aT (by simp; omega), aT (by simp; omega), ih (i + (dec s i).2) fu c (by omega) (by omega) (by omega), ht, vA hh (by decide), aqY hh (by decide)]
  ·have ec : decide ((c : Int) ≤ 8) = decide (c ≤ 8) := by rw [decide_eq_decide]; omega
   rw [jU, aT (by simpa using h), List.drop_eq_nil_of_le (by omega), ec]; simp <;> exact decide_eq_decide.2 Iff.rfl
theorem aoR (s : Str) : vI s = some (sizedB s) := by
 unfold vI sizedB
 by_cases c1 : s.length < 1
 ·rw [aN (by simp; omega)]; simp; omega
 ·rw [aT (by simp; omega)]
  by_cases c2 : s.length > 64
  ·rw [aN (by simp; omega)]; simp; omega
  ·have e1 : decide (1 ≤ s.length) = true := by simp; omega
   have e2 : decide (s.length ≤ 64) = true := by simp; omega
   rw [aT (by simp; omega), e1, e2]
   unfold w8
   have := av7 s s.length 0 fuel 1 (by omega) (by rw [fQ]; omega) (by omega)
   rw [show ((1 : Nat) : Int) = 1 from rfl] at this
   rw [this]; simp [Nat.add_comm]
def cS : Str → List Str
 | [] => [[]]
 | b :: r => if b = 47 then [] :: cS r else match cS r with | [] => [[b]] | h :: t => (b :: h) :: t
theorem zU (s : Str) : cS s ≠ [] := by
 cases s with
 | nil => simp [cS]
 | cons b r => simp only [cS]; split <;> (try simp); split <;> simp
theorem abj : ∀ s : Str, (cS s).length = s.count 47 + 1
 | [] => by simp [cS]
 | b :: r => by
  have ih := abj r
  simp only [cS, List.count_cons]
  by_cases h : b = 47
  ·simp [h, ih]
  ·rw [if_neg h]
   have hb : (b == 47) = false := by simpa using h
   cases hr : cS r with
   | nil => exact absurd hr (zU r)
   | cons x t => rw [hr] at ih; simp [hb] at ih ⊢; omega
def aeH (p : Str) : List Str → List Str
 | [] => [p]
 | h :: t => (p ++ h) :: t
theorem arG (p r : Str) : aeH p (cS (47 :: r)) = p :: cS r := by simp [cS, aeH]
theorem arR (p r : Str) {b : UInt8} (h : b ≠ 47) : aeH p (cS (b :: r)) = aeH (p ++ [b]) (cS r) := by
 simp only [cS, if_neg h]
 cases hr : cS r with
 | nil => exact absurd hr (zU r)
 | cons x t => simp [aeH]
theorem awu (s : Str) {a i : Nat} (h1 : a ≤ i) (h2 : i ≤ s.length) : bR s (some (a : Int)) (some (i : Int)) = (s.take i).drop a := by simp [bR]
theorem atl (s : Str) {a i : Nat} (h1 : a ≤ i) (h2 : i < s.length) : (s.take i).drop a ++ [s[i]] = (s.take (i + 1)).drop a := by
 rw [← y0 h2, List.drop_append_of_le_length (by simp; omega)]
theorem ant (s : Str) (hl : s.length < 1000000) : ∀ (k i fu a : Nat) (acc : List Str), i + k = s.length → k < fu → a ≤ i → acc.length ≤ i →
  fK fu s (a : Int) (i : Int) acc = some (acc ++ aeH ((s.take i).drop a) (cS (s.drop i))) := by
 intro k
 induction k with
 | zero =>
  intro i fu a acc hi hf ha hacc
  obtain ⟨fu, rfl⟩ : ∃ n, fu = n + 1 := ⟨fu - 1, by omega⟩
  have e : bR s (some (a : Int)) none = (s.take i).drop a := by simp [bR, List.take_of_length_le (show s.length ≤ i by omega)]
  rw [fK, aT (lU (by omega)), aN (by simp; omega), e, aN (by simp; omega), drop_nil s i (by omega)]
  simp [cS, aeH]
 | succ k ih =>
  intro i fu a acc hi hf ha hacc
  obtain ⟨fu, rfl⟩ : ∃ n, fu = n + 1 := ⟨fu - 1, by omega⟩
  have h : i < s.length := by omega
  rw [fK, aN (dU h), aN (inr h), afH h, bM (by omega), List.drop_eq_getElem_cons (l := s) h]
  by_cases c : s[i].toNat = 47
  ·have e : s[i] = 47 := UInt8.toNat.inj (by simpa using c)
   rw [aN (by simp; omega), aN (by simp; omega), aN (by simp; omega), awu s ha (by omega), aN (by simp; omega), ih (i + 1) fu (i + 1) _ (by omega) (by omega) (by omega) (by simp; omega), e, arG]
   rw [drop_nil (s.take (i + 1)) _ (by simp; omega)]
   cases hr : cS (s.drop (i + 1)) with
   | nil => exact absurd hr (zU _)
   | cons x t => simp [aeH]
  ·have e : s[i] ≠ 47 := fun h => c (by rw [h]; rfl)
   rw [aT (by simp; omega), ih (i + 1) fu a acc (by omega) (by omega) (by omega) (by omega), arR _ _ e, atl s ha h]
theorem agJ (s : Str) (hl : s.length < 1000000) : oI s = some (cS s) := by
 have := ant s hl s.length 0 fuel 0 [] (by omega) (by rw [fQ]; omega) (by omega) (by simp)
 have e : aeH [] (cS s) = cS s := by
  cases hr : cS s with
  | nil => exact absurd hr (zU _)
  | cons x t => simp [aeH]
 simp only [List.drop_zero, List.take_zero, List.drop_nil, List.nil_append, e] at this
 exact this
theorem aht (s : Str) : mW s = some (sizedB s) := by
 unfold mW sizedB
 by_cases c1 : s.length < 1
 ·rw [aT (by simp; omega)]; simp; omega
 ·rw [aN (by simp; omega)]
  by_cases c2 : s.length > 64
  ·rw [aT (by simp; omega)]; simp; omega
  ·have e1 : decide (1 ≤ s.length) = true := by simp; omega
   have e2 : decide (s.length ≤ 64) = true := by simp; omega
   rw [aN (by simp; omega), cR (ah7 s (by omega) 0 (n := 0) rfl), e1, e2, Bool.true_and, Bool.true_and]
   cases s.contains 0
   ·rw [aN (by rfl), cR (agJ s (by omega)), abj]
    simp; omega
   ·rw [aT (by rfl)]; rfl
def ahA (s : Str) : Bool := sizedB s && !(s.contains 43) && !(s.contains 35)
theorem aws (s : Str) : ∀ (k i fu : Nat), s.length - i ≤ k → k < fu → kZ fu s i = some (!((s.drop i).contains 43) && !((s.drop i).contains 35)) := by
 intro k
 induction k with
 | zero =>
  intro i fu hi hf
  obtain ⟨fu, rfl⟩ : ∃ n, fu = n + 1 := ⟨fu - 1, by omega⟩
  rw [kZ, aT (by simp; omega), List.drop_eq_nil_of_le (by omega)]; rfl
 | succ k ih =>
  intro i fu hi hf
  obtain ⟨fu, rfl⟩ : ∃ n, fu = n + 1 := ⟨fu - 1, by omega⟩
  by_cases h : i < s.length
  ·rw [kZ, aN (by simpa using h)]
   by_cases lo : s[i].toNat < 128
   ·rw [ake h lo, List.drop_eq_getElem_cons h, List.contains_cons, List.contains_cons]
    simp only
    by_cases c0 : s[i].toNat = 43
    ·have e : s[i] = 43 := UInt8.toNat.inj (by simpa using c0)
     rw [aN (by simp; omega)]; simp [e]
    ·have e : (43 == s[i]) = false := by simp; intro h; rw [← h] at c0; simp at c0
     rw [aT (by simp; omega), e, Bool.false_or]
     by_cases c1 : s[i].toNat = 35
     ·have e1 : s[i] = 35 := UInt8.toNat.inj (by simpa using c1)
      rw [aN (by simp; omega)]; simp [e1]
     ·have e1 : (35 == s[i]) = false := by simp; intro h; rw [← h] at c1; simp at c1
      rw [aT (by simp; omega), ih (i + 1) fu (by omega) (by omega), e1, Bool.false_or]
   ·obtain ⟨t, ht, hh⟩ := ajq h (by omega)
    have hd := ail h (by omega)
    rw [aT (by simp; omega), aT (by simp; omega), ih (i + (dec s i).2) fu (by omega) (by omega), ht, vA hh (by decide), vA hh (by decide)]
  ·rw [kZ, aT (by simpa using h), List.drop_eq_nil_of_le (by omega)]; rfl
theorem acp {s : Str} (h : sizedB s = true) : 1 ≤ s.length ∧ s.length ≤ 64 := by
 simp only [sizedB, Bool.and_eq_true, decide_eq_true_eq] at h
 exact ⟨h.1.1.1, h.1.1.2⟩
theorem atd (s : Str) : yH s = some (ahA s) := by
 unfold yH ahA
 rw [cR (aoR s)]
 cases h : sizedB s
 ·rw [aN (by rfl)]; rfl
 ·have := acp h
  rw [aT (by rfl), aws s s.length 0 fuel (by omega) (by rw [fQ]; omega)]
  simp
theorem aoQ (s : Str) : pO s = some (ahA s) := by
 unfold pO ahA
 rw [cR (aht s)]
 cases h : sizedB s
 ·rw [aT (by rfl)]; rfl
 ·have := acp h
  rw [aN (by rfl), cR (ah7 s (by omega) 43 (n := 43) rfl)]
  cases s.contains 43
  ·rw [aN (by rfl), cR (ah7 s (by omega) 35 (n := 35) rfl)]; rfl
  ·rw [aT (by rfl)]; rfl
end Md
end PX
