import Derived.Test.YtcfpheihkbkloaaGreatDoorTopicA
set_option linter.unusedVariables false
set_option linter.unusedSimpArgs false
/- Names by the reference, sizes, levels. -/
set_option linter.unusedVariables false
set_option linter.unusedSimpArgs false
namespace PX
open Go
namespace Md
theorem drop_nil {α : Type} (l : List α) (n : Nat) (h : l.length ≤ n) : l.drop n = [] := List.drop_eq_nil_of_le h
theorem getD_i {s : Str} {i : Nat} (h : i < s.length) : List.getD s (Int.toNat (i : Int)) 0 = s[i] := by rw [Int.toNat_natCast, getD_at h]
theorem lower_eq (b : UInt8) : brokerref01_lower (UInt8.toNat b : Int) = some (lowB b) := by
 unfold brokerref01_lower lowB
 by_cases c : 97 ≤ b.toNat
 ·rw [cond_t (by simp; omega)]
  have e : decide (97 ≤ b.toNat) = true := by simpa using c
  rw [e, Bool.true_and]; congr 1; simp <;> omega
 ·rw [cond_f (by simp; omega)]
  have e : decide (97 ≤ b.toNat) = false := by simpa using c
  rw [e, Bool.false_and]
theorem digit_eq (b : UInt8) : brokerref01_digit (UInt8.toNat b : Int) = some (digB b) := by
 unfold brokerref01_digit digB
 by_cases c : 48 ≤ b.toNat
 ·rw [cond_t (by simp; omega)]
  have e : decide (48 ≤ b.toNat) = true := by simpa using c
  rw [e, Bool.true_and]; congr 1; simp <;> omega
 ·rw [cond_f (by simp; omega)]
  have e : decide (48 ≤ b.toNat) = false := by simpa using c
  rw [e, Bool.false_and]
theorem ref_name_l (s : Str) (hl : s.length < 1000000000000000) : ∀ (k i fu : Nat), i + k = s.length → k < fu → brokerref01_Name_l4 fu s (i : Int) = some ((s.drop i).all nameC) := by
 intro k
 induction k with
 | zero =>
  intro i fu hi hf
  obtain ⟨fu, rfl⟩ : ∃ n, fu = n + 1 := ⟨fu - 1, by omega⟩
  rw [brokerref01_Name_l4, cond_f (lt_f (by omega)), List.drop_eq_nil_of_le (by omega)]; rfl
 | succ k ih =>
  intro i fu hi hf
  obtain ⟨fu, rfl⟩ : ∃ n, fu = n + 1 := ⟨fu - 1, by omega⟩
  have h : i < s.length := by omega
  rw [brokerref01_Name_l4, cond_t (lt_t h), cond_t (inr h), getD_i h, bind_of (lower_eq _), all_drop h, w64_succ (by omega), ih (i + 1) fu (by omega) (by omega)]
  unfold nameC
  cases c1 : lowB s[i]
  ·rw [cond_t (by rfl), cond_t (inr h), bind_of (digit_eq _)]
   cases c2 : digB s[i]
   ·rw [cond_t (by rfl), cond_t (inr h)]
    by_cases c3 : s[i].toNat = 45
    ·rw [cond_f (by simp; omega)]; simp [c3]
    ·rw [cond_t (by simp; omega)]; simp [c3]
   ·rw [cond_f (by rfl)]; simp
  ·rw [cond_f (by rfl)]; simp
theorem ref_name_eq (s : Str) (hl : s.length < 1000000000000000) : brokerref01_Name s = some (nameB s) := by
 unfold brokerref01_Name nameB
 by_cases c1 : s.length < 1
 ·rw [cond_t (by simp; omega)]; simp; omega
 ·rw [cond_f (by simp; omega)]
  by_cases c2 : s.length > 16
  ·rw [cond_t (by simp; omega)]; simp; omega
  ·have e1 : decide (1 ≤ s.length) = true := by simp; omega
   have e2 : decide (s.length ≤ 16) = true := by simp; omega
   rw [cond_f (by simp; omega), cond_t (by simp; omega), bind_of (lower_eq _), e1, e2]
   have e3 : List.getD s (Int.toNat 0) 0 = s.getD 0 0 := rfl
   rw [e3]
   cases c3 : lowB (s.getD 0 0)
   ·rw [cond_t (by rfl)]; simp
   ·rw [cond_f (by rfl)]
    unfold brokerref01_Name_j3
    have := ref_name_l s hl s.length 0 fuel (by omega) (by rw [fuel_eq]; omega)
    rw [show ((0 : Nat) : Int) = 0 from rfl] at this
    rw [this]; simp
theorem has_l (s : Str) (hl : s.length < 1000000000000000) (c : UInt8) : ∀ (k i fu : Nat), i + k = s.length → k < fu → brokerref01_Has_l2 fu s (c.toNat : Int) (i : Int) = some ((s.drop i).contains c) := by
 intro k
 induction k with
 | zero =>
  intro i fu hi hf
  obtain ⟨fu, rfl⟩ : ∃ n, fu = n + 1 := ⟨fu - 1, by omega⟩
  rw [brokerref01_Has_l2, cond_f (lt_f (by omega)), List.drop_eq_nil_of_le (by omega)]; rfl
 | succ k ih =>
  intro i fu hi hf
  obtain ⟨fu, rfl⟩ : ∃ n, fu = n + 1 := ⟨fu - 1, by omega⟩
  have h : i < s.length := by omega
  rw [brokerref01_Has_l2, cond_t (lt_t h), cond_t (inr h), getD_i h, w64_succ (by omega), ih (i + 1) fu (by omega) (by omega), List.drop_eq_getElem_cons h, List.contains_cons]
  by_cases e : s[i] = c
  ·rw [cond_t (by simp [e])]; simp [e]
  ·have e2 : ¬ s[i].toNat = c.toNat := fun h => e (UInt8.toNat.inj h)
   rw [cond_f (by simp; omega)]
   have e3 : (c == s[i]) = false := by simp; exact fun h => e h.symm
   simp [e3]
theorem has_eq (s : Str) (hl : s.length < 1000000000000000) (c : UInt8) {n : Int} (hn : n = (c.toNat : Int)) : brokerref01_Has s n = some (s.contains c) := by
 subst hn
 have := has_l s hl c s.length 0 fuel (by omega) (by rw [fuel_eq]; omega)
 simpa [brokerref01_Has] using this
/-! ### Sizes -/
def sizedB (s : Str) : Bool := decide (1 ≤ s.length) && decide (s.length ≤ 64) && !(s.contains 0) && decide (s.count 47 + 1 ≤ 8)
theorem sized_l (s : Str) : ∀ (k i fu c : Nat), s.length - i ≤ k → k < fu → c + k < 1000000000 → topic_sized_l5 fu (c : Int) s i = some (!((s.drop i).contains 0) && decide (c + (s.drop i).count 47 ≤ 8)) := by
 intro k
 induction k with
 | zero =>
  intro i fu c hi hf hc
  obtain ⟨fu, rfl⟩ : ∃ n, fu = n + 1 := ⟨fu - 1, by omega⟩
  have ec : decide ((c : Int) ≤ 8) = decide (c ≤ 8) := by rw [decide_eq_decide]; omega
  rw [topic_sized_l5, cond_f (by simp; omega), List.drop_eq_nil_of_le (by omega), ec]; simp <;> exact decide_eq_decide.2 Iff.rfl
 | succ k ih =>
  intro i fu c hi hf hc
  obtain ⟨fu, rfl⟩ : ∃ n, fu = n + 1 := ⟨fu - 1, by omega⟩
  by_cases h : i < s.length
  ·rw [topic_sized_l5, cond_t (by simpa using h)]
   by_cases lo : s[i].toNat < 128
   ·rw [dec_lo h lo, List.drop_eq_getElem_cons h, List.contains_cons, List.count_cons]
    simp only
    by_cases c0 : s[i].toNat = 0
    ·have e : s[i] = 0 := UInt8.toNat.inj (by simpa using c0)
     rw [cond_t (by simp; omega)]; simp [e]
    ·have e : (0 == s[i]) = false := by simp; intro h; rw [← h] at c0; simp at c0
     rw [cond_f (by simp; omega), e, Bool.false_or]
     by_cases c1 : s[i].toNat = 47
     ·have e1 : s[i] = 47 := UInt8.toNat.inj (by simpa using c1)
      rw [cond_t (by simp; omega), w64_succ (by omega), ih (i + 1) fu (c + 1) (by omega) (by omega) (by omega)]
      simp only [e1, beq_self_eq_true, if_true]
      rw [show c + 1 + List.count 47 (List.drop (i + 1) s) = c + (List.count 47 (List.drop (i + 1) s) + 1) by omega]
     ·have e1 : (s[i] == 47) = false := by simp; intro h; rw [h] at c1; simp at c1
      rw [cond_f (by simp; omega), ih (i + 1) fu c (by omega) (by omega) (by omega)]
      simp [e1]
   ·obtain ⟨t, ht, hh⟩ := dec_drop h (by omega)
    have hd := dec_hi h (by omega)
    rw [cond_f (by simp; omega), cond_f (by simp; omega), ih (i + (dec s i).2) fu c (by omega) (by omega) (by omega), ht, contains_high hh (by decide), count_high hh (by decide)]
  ·have ec : decide ((c : Int) ≤ 8) = decide (c ≤ 8) := by rw [decide_eq_decide]; omega
   rw [topic_sized_l5, cond_f (by simpa using h), List.drop_eq_nil_of_le (by omega), ec]; simp <;> exact decide_eq_decide.2 Iff.rfl
theorem sized_eq (s : Str) : topic_sized s = some (sizedB s) := by
 unfold topic_sized sizedB
 by_cases c1 : s.length < 1
 ·rw [cond_t (by simp; omega)]; simp; omega
 ·rw [cond_f (by simp; omega)]
  by_cases c2 : s.length > 64
  ·rw [cond_t (by simp; omega)]; simp; omega
  ·have e1 : decide (1 ≤ s.length) = true := by simp; omega
   have e2 : decide (s.length ≤ 64) = true := by simp; omega
   rw [cond_f (by simp; omega), e1, e2]
   unfold topic_sized_j3
   have := sized_l s s.length 0 fuel 1 (by omega) (by rw [fuel_eq]; omega) (by omega)
   rw [show ((1 : Nat) : Int) = 1 from rfl] at this
   rw [this]; simp [Nat.add_comm]
/-! ### Levels -/
def levelsB : Str → List Str
 | [] => [[]]
 | b :: r => if b = 47 then [] :: levelsB r else match levelsB r with | [] => [[b]] | h :: t => (b :: h) :: t
theorem levelsB_ne (s : Str) : levelsB s ≠ [] := by
 cases s with
 | nil => simp [levelsB]
 | cons b r => simp only [levelsB]; split <;> (try simp); split <;> simp
theorem levelsB_len : ∀ s : Str, (levelsB s).length = s.count 47 + 1
 | [] => by simp [levelsB]
 | b :: r => by
  have ih := levelsB_len r
  simp only [levelsB, List.count_cons]
  by_cases h : b = 47
  ·simp [h, ih]
  ·rw [if_neg h]
   have hb : (b == 47) = false := by simpa using h
   cases hr : levelsB r with
   | nil => exact absurd hr (levelsB_ne r)
   | cons x t => rw [hr] at ih; simp [hb] at ih ⊢; omega
def prep (p : Str) : List Str → List Str
 | [] => [p]
 | h :: t => (p ++ h) :: t
theorem prep_slash (p r : Str) : prep p (levelsB (47 :: r)) = p :: levelsB r := by simp [levelsB, prep]
theorem prep_step (p r : Str) {b : UInt8} (h : b ≠ 47) : prep p (levelsB (b :: r)) = prep (p ++ [b]) (levelsB r) := by
 simp only [levelsB, if_neg h]
 cases hr : levelsB r with
 | nil => exact absurd hr (levelsB_ne r)
 | cons x t => simp [prep]
theorem cut_mid (s : Str) {a i : Nat} (h1 : a ≤ i) (h2 : i ≤ s.length) : cutL s (some (a : Int)) (some (i : Int)) = (s.take i).drop a := by simp [cutL]
theorem mid_snoc (s : Str) {a i : Nat} (h1 : a ≤ i) (h2 : i < s.length) : (s.take i).drop a ++ [s[i]] = (s.take (i + 1)).drop a := by
 rw [← take_snoc h2, List.drop_append_of_le_length (by simp; omega)]
theorem ref_levels_l (s : Str) (hl : s.length < 1000000) : ∀ (k i fu a : Nat) (acc : List Str), i + k = s.length → k < fu → a ≤ i → acc.length ≤ i →
  brokerref01_Levels_l4 fu s (a : Int) (i : Int) acc = some (acc ++ prep ((s.take i).drop a) (levelsB (s.drop i))) := by
 intro k
 induction k with
 | zero =>
  intro i fu a acc hi hf ha hacc
  obtain ⟨fu, rfl⟩ : ∃ n, fu = n + 1 := ⟨fu - 1, by omega⟩
  have e : cutL s (some (a : Int)) none = (s.take i).drop a := by simp [cutL, List.take_of_length_le (show s.length ≤ i by omega)]
  rw [brokerref01_Levels_l4, cond_f (lt_f (by omega)), cond_t (by simp; omega), e, cond_t (by simp; omega), drop_nil s i (by omega)]
  simp [levelsB, prep]
 | succ k ih =>
  intro i fu a acc hi hf ha hacc
  obtain ⟨fu, rfl⟩ : ∃ n, fu = n + 1 := ⟨fu - 1, by omega⟩
  have h : i < s.length := by omega
  rw [brokerref01_Levels_l4, cond_t (lt_t h), cond_t (inr h), getD_i h, w64_succ (by omega), List.drop_eq_getElem_cons (l := s) h]
  by_cases c : s[i].toNat = 47
  ·have e : s[i] = 47 := UInt8.toNat.inj (by simpa using c)
   rw [cond_t (by simp; omega), cond_t (by simp; omega), cond_t (by simp; omega), cut_mid s ha (by omega), cond_t (by simp; omega), ih (i + 1) fu (i + 1) _ (by omega) (by omega) (by omega) (by simp; omega), e, prep_slash]
   rw [drop_nil (s.take (i + 1)) _ (by simp; omega)]
   cases hr : levelsB (s.drop (i + 1)) with
   | nil => exact absurd hr (levelsB_ne _)
   | cons x t => simp [prep]
  ·have e : s[i] ≠ 47 := fun h => c (by rw [h]; rfl)
   rw [cond_f (by simp; omega), ih (i + 1) fu a acc (by omega) (by omega) (by omega) (by omega), prep_step _ _ e, mid_snoc s ha h]
theorem ref_levels_eq (s : Str) (hl : s.length < 1000000) : brokerref01_Levels s = some (levelsB s) := by
 have := ref_levels_l s hl s.length 0 fuel 0 [] (by omega) (by rw [fuel_eq]; omega) (by omega) (by simp)
 have e : prep [] (levelsB s) = levelsB s := by
  cases hr : levelsB s with
  | nil => exact absurd hr (levelsB_ne _)
  | cons x t => simp [prep]
 simp only [List.drop_zero, List.take_zero, List.drop_nil, List.nil_append, e] at this
 exact this
theorem ref_sized_eq (s : Str) : brokerref01_sized s = some (sizedB s) := by
 unfold brokerref01_sized sizedB
 by_cases c1 : s.length < 1
 ·rw [cond_f (by simp; omega)]; simp; omega
 ·rw [cond_t (by simp; omega)]
  by_cases c2 : s.length > 64
  ·rw [cond_f (by simp; omega)]; simp; omega
  ·have e1 : decide (1 ≤ s.length) = true := by simp; omega
   have e2 : decide (s.length ≤ 64) = true := by simp; omega
   rw [cond_t (by simp; omega), bind_of (has_eq s (by omega) 0 (n := 0) rfl), e1, e2, Bool.true_and, Bool.true_and]
   cases s.contains 0
   ·rw [cond_t (by rfl), bind_of (ref_levels_eq s (by omega)), levelsB_len]
    simp; omega
   ·rw [cond_f (by rfl)]; rfl
/-! ### Topic names -/
def validB (s : Str) : Bool := sizedB s && !(s.contains 43) && !(s.contains 35)
theorem valid_l (s : Str) : ∀ (k i fu : Nat), s.length - i ≤ k → k < fu → topic_Valid_l4 fu s i = some (!((s.drop i).contains 43) && !((s.drop i).contains 35)) := by
 intro k
 induction k with
 | zero =>
  intro i fu hi hf
  obtain ⟨fu, rfl⟩ : ∃ n, fu = n + 1 := ⟨fu - 1, by omega⟩
  rw [topic_Valid_l4, cond_f (by simp; omega), List.drop_eq_nil_of_le (by omega)]; rfl
 | succ k ih =>
  intro i fu hi hf
  obtain ⟨fu, rfl⟩ : ∃ n, fu = n + 1 := ⟨fu - 1, by omega⟩
  by_cases h : i < s.length
  ·rw [topic_Valid_l4, cond_t (by simpa using h)]
   by_cases lo : s[i].toNat < 128
   ·rw [dec_lo h lo, List.drop_eq_getElem_cons h, List.contains_cons, List.contains_cons]
    simp only
    by_cases c0 : s[i].toNat = 43
    ·have e : s[i] = 43 := UInt8.toNat.inj (by simpa using c0)
     rw [cond_t (by simp; omega)]; simp [e]
    ·have e : (43 == s[i]) = false := by simp; intro h; rw [← h] at c0; simp at c0
     rw [cond_f (by simp; omega), e, Bool.false_or]
     by_cases c1 : s[i].toNat = 35
     ·have e1 : s[i] = 35 := UInt8.toNat.inj (by simpa using c1)
      rw [cond_t (by simp; omega)]; simp [e1]
     ·have e1 : (35 == s[i]) = false := by simp; intro h; rw [← h] at c1; simp at c1
      rw [cond_f (by simp; omega), ih (i + 1) fu (by omega) (by omega), e1, Bool.false_or]
   ·obtain ⟨t, ht, hh⟩ := dec_drop h (by omega)
    have hd := dec_hi h (by omega)
    rw [cond_f (by simp; omega), cond_f (by simp; omega), ih (i + (dec s i).2) fu (by omega) (by omega), ht, contains_high hh (by decide), contains_high hh (by decide)]
  ·rw [topic_Valid_l4, cond_f (by simpa using h), List.drop_eq_nil_of_le (by omega)]; rfl
theorem sizedB_len {s : Str} (h : sizedB s = true) : 1 ≤ s.length ∧ s.length ≤ 64 := by
 simp only [sizedB, Bool.and_eq_true, decide_eq_true_eq] at h
 exact ⟨h.1.1.1, h.1.1.2⟩
theorem valid_eq (s : Str) : topic_Valid s = some (validB s) := by
 unfold topic_Valid validB
 rw [bind_of (sized_eq s)]
 cases h : sizedB s
 ·rw [cond_t (by rfl)]; rfl
 ·have := sizedB_len h
  rw [cond_f (by rfl), valid_l s s.length 0 fuel (by omega) (by rw [fuel_eq]; omega)]
  simp
theorem ref_valid_eq (s : Str) : brokerref01_Valid s = some (validB s) := by
 unfold brokerref01_Valid validB
 rw [bind_of (ref_sized_eq s)]
 cases h : sizedB s
 ·rw [cond_f (by rfl)]; rfl
 ·have := sizedB_len h
  rw [cond_t (by rfl), bind_of (has_eq s (by omega) 43 (n := 43) rfl)]
  cases s.contains 43
  ·rw [cond_t (by rfl), bind_of (has_eq s (by omega) 35 (n := 35) rfl)]; rfl
  ·rw [cond_f (by rfl)]; rfl
end Md
end PX
