import Derived.Test.YtcfpheihkbkloaaGreatDoorTopicB
set_option linter.unusedVariables false
set_option linter.unusedSimpArgs false
/- Levels by the library, filters, shared subscriptions. -/
set_option linter.unusedVariables false
set_option linter.unusedSimpArgs false
namespace PX
open Go
namespace Md
theorem idx_spec (c : UInt8) : ∀ l : Str, (Lib.indexByte l c = -1 ∧ l.count c = 0) ∨ ∃ m : Nat, Lib.indexByte l c = m ∧ m < l.length ∧ l = l.take m ++ c :: l.drop (m + 1) ∧ (l.take m).count c = 0
 | [] => .inl (by simp [Lib.indexByte])
 | b :: l => by
  rw [Lib.indexByte]
  by_cases h : b = c
  ·subst h
   exact .inr ⟨0, by simp, by simp, by simp, by simp⟩
  ·have hb : (b == c) = false := by simpa using h
   rw [hb]
   simp only [Bool.false_eq_true, if_false]
   rcases idx_spec c l with ⟨h1, h2⟩ | ⟨m, h1, h2, h3, h4⟩
   ·left
    rw [h1]
    exact ⟨by simp, by rw [List.count_cons, hb, h2]; simp⟩
   ·right
    have : ((m : Int) == -1) = false := by simp <;> omega
    refine ⟨m + 1, by rw [h1, this]; simp, by simp; omega, ?_, by rw [List.take_succ_cons, List.count_cons, hb, h4]; simp⟩
    simp only [List.take_succ_cons, List.drop_succ_cons, List.cons_append]
    rw [← h3]
theorem levels_none : ∀ {l : Str}, l.count 47 = 0 → levelsB l = [l]
 | [], _ => rfl
 | b :: l, h => by
  rw [List.count_cons] at h
  have h1 : l.count 47 = 0 := by omega
  have h2 : b ≠ 47 := by rintro rfl; simp at h
  simp only [levelsB, if_neg h2, levels_none h1]
theorem levels_some : ∀ {p r : Str}, p.count 47 = 0 → levelsB (p ++ 47 :: r) = p :: levelsB r
 | [], r, _ => by simp [levelsB]
 | b :: p, r, h => by
  rw [List.count_cons] at h
  have h1 : p.count 47 = 0 := by omega
  have h2 : b ≠ 47 := by rintro rfl; simp at h
  simp only [List.cons_append, levelsB, if_neg h2, levels_some h1]
theorem index_one (s : Str) (hs : s ≠ [47]) : strings_Index s ([47] : Str) = some (Lib.indexByte s 47) := by
 unfold strings_Index stringslite_Index
 have : (([47] : Str) == s) = false := by simp; exact fun h => hs h.symm
 rw [cond_f (by rfl), cond_f this, cond_t (by rfl), cond_t (by rfl)]
 rfl
theorem index_slash (s : Str) : strings_Index s ([47] : Str) = some (Lib.indexByte s 47) := by
 by_cases h : s = [47]
 ·subst h; rfl
 ·exact index_one s h
theorem split_l (N : Nat) (hN : N < 100000) : ∀ (k i fu : Nat) (s : Str) (acc : List Str), i + k = N → k < fu → s.count 47 = k → s.length < 1000000 → acc.length = i →
  strings_genSplit_l11 fu s ([47] : Str) 0 (N : Int) (i : Int) (acc ++ List.replicate (k + 1) default) = some (acc ++ levelsB s) := by
 intro k
 induction k with
 | zero =>
  intro i fu s acc hi hf hc hs ha
  obtain ⟨fu, rfl⟩ : ∃ n, fu = n + 1 := ⟨fu - 1, by omega⟩
  rw [strings_genSplit_l11, cond_f (lt_f (by omega))]
  unfold strings_genSplit_j17
  have e : (acc ++ List.replicate (0 + 1) (default : Str)).set i s = acc ++ [s] := by
   rw [List.set_append_right _ _ (by omega)]; simp [ha]
  rw [Int.toNat_natCast, e, cond_t (by simp; omega), w64_succ (by omega), cond_t (by simp; omega), levels_none hc, Int.toNat_natCast]
  rw [Nat.sub_zero, List.drop_zero, List.take_of_length_le (by simp; omega)]
 | succ k ih =>
  intro i fu s acc hi hf hc hs ha
  obtain ⟨fu, rfl⟩ : ∃ n, fu = n + 1 := ⟨fu - 1, by omega⟩
  rw [strings_genSplit_l11, cond_t (lt_t (by omega)), bind_of (index_slash s)]
  rcases idx_spec 47 s with ⟨h1, h2⟩ | ⟨m, h1, h2, h3, h4⟩
  ·omega
  ·have e1 : IntKind.wrap .i64 ((m : Int) + 0) = (m : Int) := by rw [w64 (by omega) (by omega)]; omega
   have e2 : IntKind.wrap .i64 ((m : Int) + (List.length ([47] : Str) : Int)) = ((m + 1 : Nat) : Int) := w64_succ (by omega)
   have e3 : cutL s none (some (m : Int)) = s.take m := by simp [cutL]
   have e4 : cutL s (some ((m + 1 : Nat) : Int)) none = s.drop (m + 1) := by simp [cutL]
   have hcount : (s.drop (m + 1)).count 47 = k := by
    have := congrArg (List.count 47) h3
    rw [List.count_append, h4, List.count_cons_self, hc] at this
    omega
   have hset : (acc ++ List.replicate (k + 1 + 1) (default : Str)).set i (s.take m) = (acc ++ [s.take m]) ++ List.replicate (k + 1) default := by
    rw [List.set_append_right _ _ (by omega), List.replicate_succ]; simp [ha]
   rw [h1, cond_f (by simp <;> omega), e1, e2, e3, e4, cond_t (by simp; omega), cond_t (by simp; omega), cond_t (by simp; omega), w64_succ (by omega), Int.toNat_natCast, hset,
    ih (i + 1) fu (s.drop (m + 1)) (acc ++ [s.take m]) (by omega) (by omega) hcount (by simp; omega) (by simp; omega)]
   have : levelsB s = s.take m :: levelsB (s.drop (m + 1)) := by
    conv => lhs; rw [h3]
    exact levels_some h4
   rw [this]; simp
theorem levels_eq (s : Str) (hs : s.length < 100000) : topic_Levels s = some (levelsB s) := by
 have hc : s.count 47 ≤ s.length := List.count_le_length
 have hsplit : strings_Split s ([47] : Str) = some (levelsB s) := by
  unfold strings_Split strings_genSplit
  have h1 : strings_Count s ([47] : Str) = some ((s.count 47 : Nat) : Int) := by
   unfold strings_Count
   rw [cond_f (by rfl), cond_t (by rfl), cond_t (by rfl)]
   rfl
  rw [cond_f (by rfl), cond_f (by rfl), cond_t (by rfl), bind_of h1]
  unfold strings_genSplit_j7
  have e1 : IntKind.wrap .i64 (((s.count 47 : Nat) : Int) + 1) = ((s.count 47 + 1 : Nat) : Int) := w64_succ (by omega)
  have e2 : IntKind.wrap .i64 ((s.length : Int) + 1) = ((s.length + 1 : Nat) : Int) := w64_succ (by omega)
  rw [e1, e2]
  have e3 : (if ((s.length + 1 : Nat) : Int) < ((s.count 47 + 1 : Nat) : Int) then ((s.length + 1 : Nat) : Int) else ((s.count 47 + 1 : Nat) : Int)) = ((s.count 47 + 1 : Nat) : Int) := by rw [if_neg (by omega)]
  have e4 : IntKind.wrap .i64 (((s.count 47 + 1 : Nat) : Int) - 1) = ((s.count 47 : Nat) : Int) := by rw [w64 (by omega) (by omega)]; omega
  simp only [e3]
  rw [cond_t (by simp; omega), e4, Int.toNat_natCast]
  have := split_l (s.count 47) (by omega) (s.count 47) 0 fuel s [] (by omega) (by rw [fuel_eq]; omega) rfl (by omega) rfl
  simp only [List.nil_append] at this
  rw [show ((0 : Nat) : Int) = 0 from rfl] at this
  rw [this]; rfl
 unfold topic_Levels
 rw [bind_of hsplit]
/-! ### Filters -/
def badL (l : Str) (one last : Bool) : Bool := (l.contains 43 && !one) || (l.contains 35 && (!one || !last))
def filterL : List Str → Bool
 | [] => true
 | lv :: r => !(badL lv (decide (lv.length = 1)) r.isEmpty) && filterL r
def filterB (s : Str) : Bool := sizedB s && filterL (levelsB s)
theorem filt_in (k6 : (List Str) → Bool → (List Str) → Int → Int → Option Bool) (x3 x15 : List Str) (x4 : Bool) (x16 : Int) (lv : Str) (i : Nat) (hi : i < x3.length) (hx : x3.length < 1000000) :
  ∀ (k j fu : Nat), lv.length - j ≤ k → k < fu → topic_Filter_l9 fu k6 x3 x4 (i : Int) lv x15 x16 (i : Int) lv j =
   if badL (lv.drop j) (decide (lv.length = 1)) (decide (i + 1 = x3.length)) = true then some false else k6 x3 x4 x15 x16 ((i + 1 : Nat) : Int) := by
 intro k
 have hw : IntKind.wrap .i64 ((x3.length : Int) - 1) = ((x3.length - 1 : Nat) : Int) := by rw [w64 (by omega) (by omega)]; omega
 induction k with
 | zero =>
  intro j fu hj hf
  obtain ⟨fu, rfl⟩ : ∃ n, fu = n + 1 := ⟨fu - 1, by omega⟩
  rw [topic_Filter_l9, cond_f (by simp; omega), List.drop_eq_nil_of_le (by omega), w64_succ (by omega)]; simp [badL]
 | succ k ih =>
  intro j fu hj hf
  obtain ⟨fu, rfl⟩ : ∃ n, fu = n + 1 := ⟨fu - 1, by omega⟩
  by_cases h : j < lv.length
  ·rw [topic_Filter_l9, cond_t (by simpa using h), hw]
   by_cases lo : lv[j].toNat < 128
   ·rw [dec_lo h lo]
    simp only
    rw [ih (j + 1) fu (by omega) (by omega), List.drop_eq_getElem_cons h]
    have ev : (!((lv.length : Int) == 1)) = !(decide (lv.length = 1)) := by rw [Bool.eq_iff_iff]; simp; omega
    have el : decide ((i : Int) < ((x3.length - 1 : Nat) : Int)) = !(decide (i + 1 = x3.length)) := by rw [Bool.eq_iff_iff]; simp; omega
    rw [ev, el]
    unfold badL
    rw [List.contains_cons, List.contains_cons]
    by_cases c0 : lv[j].toNat = 43
    ·have e : lv[j] = 43 := UInt8.toNat.inj (by simpa using c0)
     rw [cond_t (by simp; omega), e]
     cases hd1 : decide (lv.length = 1)
     ·rw [cond_t (by rfl)]; simp
     ·rw [cond_f (by rfl), cond_f (by decide)]; simp
    ·have e : (43 == lv[j]) = false := by simp; intro h; rw [← h] at c0; simp at c0
     rw [cond_f (by simp; omega), e, Bool.false_or]
     by_cases c1 : lv[j].toNat = 35
     ·have e1 : lv[j] = 35 := UInt8.toNat.inj (by simpa using c1)
      rw [cond_t (by simp; omega), e1]
      cases decide (lv.length = 1) <;> cases decide (i + 1 = x3.length) <;> simp
     ·have e1 : (35 == lv[j]) = false := by simp; intro h; rw [← h] at c1; simp at c1
      rw [cond_f (by simp; omega), e1, Bool.false_or]
   ·obtain ⟨t, ht, hh⟩ := dec_drop h (by omega)
    have hd := dec_hi h (by omega)
    rw [cond_f (by simp; omega), cond_f (by simp; omega), ih (j + (dec lv j).2) fu (by omega) (by omega), ht]
    unfold badL
    rw [contains_high hh (by decide), contains_high hh (by decide)]
  ·rw [topic_Filter_l9, cond_f (by simpa using h), List.drop_eq_nil_of_le (by omega), w64_succ (by omega)]; simp [badL]
theorem filt_out (l : List Str) (hl : l.length < 1000000) (hlv : ∀ x ∈ l, x.length < 1000000) : ∀ (k i fu : Nat), i + k = l.length → k < fu → topic_Filter_l6 fu l true l (l.length : Int) (i : Int) = some (filterL (l.drop i)) := by
 intro k
 induction k with
 | zero =>
  intro i fu hi hf
  obtain ⟨fu, rfl⟩ : ∃ n, fu = n + 1 := ⟨fu - 1, by omega⟩
  rw [topic_Filter_l6, cond_f (lt_f (by omega)), List.drop_eq_nil_of_le (by omega)]; rfl
 | succ k ih =>
  intro i fu hi hf
  obtain ⟨fu, rfl⟩ : ∃ n, fu = n + 1 := ⟨fu - 1, by omega⟩
  have h : i < l.length := by omega
  have hx := hlv _ (List.getElem_mem h)
  rw [topic_Filter_l6, cond_t (lt_t h), cond_t (inr h), getD_nat h, filt_in _ l l true _ l[i] i h hl l[i].length 0 fuel (by omega) (by rw [fuel_eq]; omega), List.drop_zero, List.drop_eq_getElem_cons h, filterL]
  have el : decide (i + 1 = l.length) = (l.drop (i + 1)).isEmpty := by rw [Bool.eq_iff_iff]; simp; omega
  rw [el]
  cases badL l[i] (decide (l[i].length = 1)) (l.drop (i + 1)).isEmpty
  ·simp only [Bool.false_eq_true, if_false]
   rw [ih (i + 1) fu (by omega) (by omega)]; simp
  ·simp
theorem prefix_len : ∀ (s : Str), ∀ x ∈ levelsB s, x.length ≤ s.length
 | [], x, hx => by simp [levelsB] at hx; subst hx; simp
 | b :: r, x, hx => by
  have ih := prefix_len r
  simp only [levelsB] at hx
  split at hx
  ·rcases List.mem_cons.1 hx with rfl | hx
   ·simp
   ·have := ih x hx; simp; omega
  ·cases hr : levelsB r with
   | nil => exact absurd hr (levelsB_ne r)
   | cons y t =>
    rw [hr] at hx ih
    rcases List.mem_cons.1 hx with rfl | hx
    ·have := ih y List.mem_cons_self; simp; omega
    ·have := ih x (List.mem_cons_of_mem _ hx); simp; omega
theorem filter_eq (s : Str) : topic_Filter s = some (filterB s) := by
 unfold topic_Filter filterB
 rw [bind_of (sized_eq s)]
 cases h : sizedB s
 ·rw [cond_t (by rfl)]; rfl
 ·have hl := sizedB_len h
  have hc : s.count 47 ≤ s.length := List.count_le_length
  have hn := levelsB_len s
  rw [cond_f (by rfl), bind_of (levels_eq s (by omega))]
  have := filt_out (levelsB s) (by omega) (fun x hx => by have := prefix_len s x hx; omega) (levelsB s).length 0 fuel (by omega) (by rw [fuel_eq]; omega)
  rw [show ((0 : Nat) : Int) = 0 from rfl] at this
  rw [this]; simp
theorem one_eq {l : Str} {c : UInt8} (h : l.contains c = true) : decide (l.length = 1) = (l == [c]) := by
 rw [Bool.eq_iff_iff]
 simp only [decide_eq_true_eq, beq_iff_eq]
 constructor
 ·intro h1
  match l, h1, h with
  | [x], _, h => simp at h; simp [h]
 ·rintro rfl; rfl
theorem ref_filt_j (k5 : Int → (List Str) → Option Bool) (l : List Str) (hl : l.length < 1000000) (i : Nat) (h : i < l.length) (hx : l[i].length < 1000000) :
  brokerref01_Filter_j9 k5 (i : Int) l = if (l[i].contains 35 && (!(decide (l[i].length = 1)) || !((l.drop (i + 1)).isEmpty))) = true then some false else k5 ((i + 1 : Nat) : Int) l := by
 have hw : IntKind.wrap .i64 ((l.length : Int) - 1) = ((l.length - 1 : Nat) : Int) := by rw [w64 (by omega) (by omega)]; omega
 unfold brokerref01_Filter_j9
 rw [cond_t (inr h), getD_nat h, bind_of (has_eq l[i] (by omega) 35 (n := 35) rfl), w64_succ (by omega)]
 cases h1 : l[i].contains 35
 ·rw [cond_f (by rfl)]; simp
 ·rw [cond_t (by rfl), cond_t (inr h), ← one_eq h1, hw]
  have el : ((i : Int) != ((l.length - 1 : Nat) : Int)) = !((l.drop (i + 1)).isEmpty) := by rw [Bool.eq_iff_iff]; simp; omega
  rw [el]
  cases decide (l[i].length = 1) <;> cases (l.drop (i + 1)).isEmpty <;> simp
theorem ref_filt_l (l : List Str) (hl : l.length < 1000000) (hlv : ∀ x ∈ l, x.length < 1000000) : ∀ (k i fu : Nat), i + k = l.length → k < fu → brokerref01_Filter_l5 fu (i : Int) l = some (filterL (l.drop i)) := by
 intro k
 induction k with
 | zero =>
  intro i fu hi hf
  obtain ⟨fu, rfl⟩ : ∃ n, fu = n + 1 := ⟨fu - 1, by omega⟩
  rw [brokerref01_Filter_l5, cond_f (lt_f (by omega)), List.drop_eq_nil_of_le (by omega)]; rfl
 | succ k ih =>
  intro i fu hi hf
  obtain ⟨fu, rfl⟩ : ∃ n, fu = n + 1 := ⟨fu - 1, by omega⟩
  have h : i < l.length := by omega
  have hx := hlv _ (List.getElem_mem h)
  rw [brokerref01_Filter_l5, cond_t (lt_t h), cond_t (inr h), getD_nat h, bind_of (has_eq l[i] (by omega) 43 (n := 43) rfl), ref_filt_j _ l hl i h hx, ih (i + 1) fu (by omega) (by omega), List.drop_eq_getElem_cons h, filterL]
  unfold badL
  cases h1 : l[i].contains 43
  ·rw [cond_f (by rfl)]
   simp only [Bool.false_and, Bool.false_or]
   cases (l[i].contains 35 && (!(decide (l[i].length = 1)) || !((l.drop (i + 1)).isEmpty))) <;> simp
  ·rw [cond_t (by rfl), cond_t (inr h), ← one_eq h1]
   cases h2 : decide (l[i].length = 1)
   ·rw [cond_t (by rfl)]; simp
   ·rw [cond_f (by rfl)]
    cases (l[i].contains 35) <;> cases ((l.drop (i + 1)).isEmpty) <;> simp
theorem ref_filter_eq (s : Str) : brokerref01_Filter s = some (filterB s) := by
 unfold brokerref01_Filter filterB
 rw [bind_of (ref_sized_eq s)]
 cases h : sizedB s
 ·rw [cond_t (by rfl)]; rfl
 ·have hl := sizedB_len h
  have hc : s.count 47 ≤ s.length := List.count_le_length
  have hn := levelsB_len s
  rw [cond_f (by rfl), bind_of (ref_levels_eq s (by omega))]
  have := ref_filt_l (levelsB s) (by omega) (fun x hx => by have := prefix_len s x hx; omega) (levelsB s).length 0 fuel (by omega) (by rw [fuel_eq]; omega)
  rw [show ((0 : Nat) : Int) = 0 from rfl] at this
  rw [this]; simp
/-! ### Shared subscriptions -/
abbrev shareP : Str := [36, 115, 104, 97, 114, 101, 47]
def beginsB (s p : Str) : Bool := decide (p.length ≤ s.length) && (s.take p.length == p)
theorem hasPrefix_eq (s p : Str) : stringslite_HasPrefix s p = some (beginsB s p) := by
 unfold stringslite_HasPrefix beginsB
 by_cases h : p.length ≤ s.length
 ·rw [cond_t (by simp; omega), cond_t (by simp; omega)]; simp [cutL, h]
 ·rw [cond_f (by simp; omega)]; simp [h]
theorem begins_eq (s p : Str) : brokerref01_Begins s p = some (beginsB s p) := hasPrefix_eq s p
theorem hasPrefix_eq' (s p : Str) : strings_HasPrefix s p = some (beginsB s p) := by
 unfold strings_HasPrefix; rw [bind_of (hasPrefix_eq s p)]
theorem cutPrefix_eq (s p : Str) : strings_CutPrefix s p = some (if beginsB s p = true then (s.drop p.length, true) else (s, false)) := by
 unfold strings_CutPrefix stringslite_CutPrefix
 rw [bind_of (hasPrefix_eq s p)]
 cases h : beginsB s p
 ·rw [cond_t (by rfl)]; rfl
 ·have hl : p.length ≤ s.length := by simp only [beginsB, Bool.and_eq_true, decide_eq_true_eq] at h; exact h.1
  rw [cond_f (by rfl), cond_t (by simp; omega)]; simp [cutL]
theorem cut_eq (s : Str) (hs : s.length < 1000000000000000) : strings_Cut s ([47] : Str) = some (if Lib.indexByte s 47 = -1 then (s, [], false) else (s.take (Lib.indexByte s 47).toNat, s.drop ((Lib.indexByte s 47).toNat + 1), true)) := by
 have hi : stringslite_Index s ([47] : Str) = some (Lib.indexByte s 47) := by
  have := index_slash s
  unfold strings_Index at this
  cases h : stringslite_Index s ([47] : Str) with
  | none => rw [h] at this; cases this
  | some v => rw [h] at this; exact this
 unfold strings_Cut stringslite_Cut
 rw [bind_of hi]
 rcases idx_spec 47 s with ⟨h1, h2⟩ | ⟨m, h1, h2, h3, h4⟩
 ·rw [h1, cond_f (by rfl)]; rfl
 ·have e2 : IntKind.wrap .i64 ((m : Int) + (List.length ([47] : Str) : Int)) = ((m + 1 : Nat) : Int) := w64_succ (by omega)
  rw [h1, cond_t (by simp), cond_t (by simp; omega), e2, cond_t (by simp; omega), if_neg (by omega)]
  simp [cutL]
def sharedB (s : Str) : Option (Str × Str) :=
 if beginsB s shareP = true then
  (if Lib.indexByte (s.drop 7) 47 = -1 then none
  else if (nameB ((s.drop 7).take (Lib.indexByte (s.drop 7) 47).toNat) && filterB ((s.drop 7).drop ((Lib.indexByte (s.drop 7) 47).toNat + 1)) && !(beginsB ((s.drop 7).drop ((Lib.indexByte (s.drop 7) 47).toNat + 1)) shareP)) = true then
   some ((s.drop 7).take (Lib.indexByte (s.drop 7) 47).toNat, (s.drop 7).drop ((Lib.indexByte (s.drop 7) 47).toNat + 1)) else none)
 else none
def sharedT (o : Option (Str × Str)) : Str × Str × Bool := match o with | some (g, f) => (g, f, true) | none => ([], [], false)
theorem shared_eq (s : Str) (hs : s.length < 1000000000000000) : topic_Shared s = some (sharedT (sharedB s)) := by
 unfold topic_Shared sharedB
 rw [bind_of (cutPrefix_eq s shareP)]
 cases h : beginsB s shareP
 ·rw [cond_t (by rfl)]; rfl
 ·simp only [if_true]
  have e7 : s.drop shareP.length = s.drop 7 := rfl
  rw [cond_f (by rfl), e7, bind_of (cut_eq (s.drop 7) (by simp; omega))]
  by_cases h1 : Lib.indexByte (s.drop 7) 47 = -1
  ·rw [if_pos h1, if_pos h1, cond_t (by rfl)]; rfl
  ·rw [if_neg h1, if_neg h1, cond_f (by rfl)]
   rw [bind_of (name_eq _ (by simp; omega))]
   cases nameB ((s.drop 7).take (Lib.indexByte (s.drop 7) 47).toNat)
   ·rw [cond_t (by rfl)]; simp [sharedT]
   ·rw [cond_f (by rfl), bind_of (filter_eq _)]
    cases filterB ((s.drop 7).drop ((Lib.indexByte (s.drop 7) 47).toNat + 1))
    ·rw [cond_t (by rfl)]; simp [sharedT]
    ·rw [cond_f (by rfl), bind_of (hasPrefix_eq' _ _)]
     cases beginsB ((s.drop 7).drop ((Lib.indexByte (s.drop 7) 47).toNat + 1)) shareP
     ·rw [cond_f (by rfl)]; simp [sharedT]
     ·rw [cond_t (by rfl)]; simp [sharedT]
/-- The place of the first slash, the length if there is none. -/
def slashAt (s : Str) : Nat := if Lib.indexByte s 47 = -1 then s.length else (Lib.indexByte s 47).toNat
theorem ref_shared_l (s : Str) (hs : s.length < 1000000000000000) : ∀ (k i fu : Nat), i + k = s.length → k < fu → brokerref01_Shared_l5 fu s (i : Int) = brokerref01_Shared_j7 s ((i + slashAt (s.drop i) : Nat) : Int) := by
 intro k
 induction k with
 | zero =>
  intro i fu hi hf
  obtain ⟨fu, rfl⟩ : ∃ n, fu = n + 1 := ⟨fu - 1, by omega⟩
  rw [brokerref01_Shared_l5, cond_f (lt_f (by omega)), List.drop_eq_nil_of_le (by omega)]; simp [slashAt, Lib.indexByte]
 | succ k ih =>
  intro i fu hi hf
  obtain ⟨fu, rfl⟩ : ∃ n, fu = n + 1 := ⟨fu - 1, by omega⟩
  have h : i < s.length := by omega
  rw [brokerref01_Shared_l5, cond_t (lt_t h), cond_t (inr h), getD_i h, List.drop_eq_getElem_cons h]
  by_cases c : s[i].toNat = 47
  ·have e : s[i] = 47 := UInt8.toNat.inj (by simpa using c)
   rw [cond_f (by simp; omega), e]; simp [slashAt, Lib.indexByte]
  ·have e : (s[i] == 47) = false := by simp; intro h; rw [h] at c; simp at c
   rw [cond_t (by simp; omega), w64_succ (by omega), ih (i + 1) fu (by omega) (by omega)]
   congr 2
   unfold slashAt
   rw [Lib.indexByte, e]
   simp only [Bool.false_eq_true, if_false]
   rcases idx_spec 47 (s.drop (i + 1)) with ⟨h1, h2⟩ | ⟨m, h1, h2, h3, h4⟩
   ·rw [h1]; simp <;> omega
   ·have h5 : ((m : Int) == -1) = false := by simp
    rw [h1, h5]; simp only [Bool.false_eq_true, if_false]; rw [if_neg (by omega), if_neg (by omega)]; omega
theorem ref_shared_eq (s : Str) (hs : s.length < 1000000000000000) : brokerref01_Shared s = some (sharedT (sharedB s)) := by
 unfold brokerref01_Shared sharedB
 rw [bind_of (begins_eq s shareP)]
 cases h : beginsB s shareP
 ·rw [cond_t (by rfl)]; rfl
 ·have hl : 7 ≤ s.length := by simp only [beginsB, Bool.and_eq_true, decide_eq_true_eq] at h; exact h.1
  have e7 : cutL s (some 7) none = s.drop 7 := rfl
  simp only [if_true]
  rw [cond_f (by rfl), cond_t (by simp; omega), e7]
  have hj := ref_shared_l (s.drop 7) (by simp; omega) (s.drop 7).length 0 fuel (by omega) (by rw [fuel_eq]; simp; omega)
  rw [show ((0 : Nat) : Int) = 0 from rfl, List.drop_zero, Nat.zero_add] at hj
  rw [hj]
  unfold brokerref01_Shared_j7 slashAt
  rcases idx_spec 47 (s.drop 7) with ⟨h1, h2⟩ | ⟨m, h1, h2, h3, h4⟩
  ·rw [h1, if_pos rfl, if_pos rfl, cond_t (by simp)]; rfl
  ·have e1 : cutL (s.drop 7) none (some (m : Int)) = (s.drop 7).take m := by simp [cutL]
   have e2 : cutL (s.drop 7) (some ((m + 1 : Nat) : Int)) none = (s.drop 7).drop (m + 1) := by simp only [cutL, Int.toNat_natCast]
   have hlt : m < s.length - 7 := by simpa using h2
   rw [h1, if_neg (by omega), if_neg (by omega), Int.toNat_natCast, cond_f (by simp; omega), cond_t (by simp; omega), e1, bind_of (ref_name_eq _ (by simp; omega))]
   cases nameB ((s.drop 7).take m)
   ·rw [cond_t (by rfl)]; simp [sharedT]
   ·rw [cond_f (by rfl), w64_succ (by omega), cond_t (by simp; omega), e2, bind_of (ref_filter_eq _)]
    cases filterB ((s.drop 7).drop (m + 1))
    ·rw [cond_t (by rfl)]; simp [sharedT]
    ·rw [cond_f (by rfl), cond_t (by simp; omega), bind_of (begins_eq _ _)]
     cases beginsB ((s.drop 7).drop (m + 1)) shareP
     ·rw [cond_f (by rfl)]
      unfold brokerref01_Shared_j9
      rw [cond_t (by simp; omega), w64_succ (by omega), cond_t (by simp; omega), e1, e2]
      simp [sharedT]
     ·rw [cond_t (by rfl)]; simp [sharedT]
def wantedB (s : Str) : Bool := (sharedB s).isSome || filterB s && !(beginsB s shareP)
theorem sharedT_ok (o : Option (Str × Str)) : (sharedT o).2.2 = o.isSome := by cases o <;> rfl
theorem ref_wanted_eq (s : Str) (hs : s.length < 1000000000000000) : brokerref01_Wanted s = some (wantedB s) := by
 unfold brokerref01_Wanted wantedB
 rw [bind_of (ref_shared_eq s hs), sharedT_ok]
 cases (sharedB s).isSome
 ·rw [cond_f (by rfl), bind_of (ref_filter_eq s)]
  cases filterB s
  ·rw [cond_f (by rfl)]; rfl
  ·rw [cond_t (by rfl), bind_of (begins_eq _ _)]; rfl
 ·rw [cond_t (by rfl)]; rfl
end Md
end PX
