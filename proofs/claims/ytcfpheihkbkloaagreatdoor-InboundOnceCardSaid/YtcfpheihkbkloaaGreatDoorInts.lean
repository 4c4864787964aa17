import Derived.Test.YtcfpheihkbkloaaGreatDoorPktB
set_option linter.unusedVariables false
set_option linter.unusedSimpArgs false
/- Ascending lists of numbers: search, insertion, removal. -/
set_option linter.unusedVariables false
set_option linter.unusedSimpArgs false
namespace PX
open Go
namespace Md
/-- How many elements are less. -/
def cutI (l : List Int) (x : Int) : Nat := (l.takeWhile fun y => decide (y < x)).length
theorem cutI_eq (x : Int) : ∀ (l : List Int) (i : Nat), i ≤ l.length → (∀ q (h : q < l.length), q < i → l[q] < x) → (∀ h : i < l.length, x ≤ l[i]) → cutI l x = i
 | [], i, h1, _, _ => by simp at h1; subst h1; rfl
 | y :: r, 0, _, _, h3 => by
  have : x ≤ y := h3 (by simp)
  simp [cutI, List.takeWhile, show ¬ y < x by omega]
 | y :: r, i + 1, h1, h2, h3 => by
  have h4 : y < x := h2 0 (by simp) (by omega)
  have ih := cutI_eq x r i (by simpa using h1) (fun q h hq => by have := h2 (q + 1) (by simpa using h) (by omega); simpa using this) (fun h => by have := h3 (by simpa using h); simpa using this)
  simp only [cutI, List.takeWhile, h4, decide_true, List.length_cons] at ih ⊢
  rw [ih]
theorem cutI_take (x : Int) : ∀ l : List Int, l.take (cutI l x) = l.takeWhile fun y => decide (y < x)
 | [] => rfl
 | y :: r => by
  by_cases h : y < x
  ·have ih := cutI_take x r
   simp only [cutI, List.takeWhile, h, decide_true, List.length_cons, List.take_succ_cons] at ih ⊢
   rw [ih]
  ·simp [cutI, List.takeWhile, h]
theorem cutI_drop (x : Int) : ∀ l : List Int, l.drop (cutI l x) = l.dropWhile fun y => decide (y < x)
 | [] => rfl
 | y :: r => by
  by_cases h : y < x
  ·have ih := cutI_drop x r
   simp only [cutI, List.takeWhile, List.dropWhile, h, decide_true, List.length_cons, List.drop_succ_cons] at ih ⊢
   rw [ih]
  ·simp [cutI, List.takeWhile, List.dropWhile, h]
theorem cutI_le (l : List Int) (x : Int) : cutI l x ≤ l.length := by
 have h := congrArg List.length (cutI_take x l)
 rw [List.length_take] at h
 unfold cutI at h ⊢
 omega
theorem mid_eq {i j : Nat} (h : i + j < 4611686018427387904) : IntKind.wrap .i64 (shr .u64 (IntKind.wrap .u64 (IntKind.wrap .i64 ((i : Int) + (j : Int)))) 1) = (((i + j) / 2 : Nat) : Int) := by
 have h1 : IntKind.wrap .i64 ((i : Int) + (j : Int)) = ((i + j : Nat) : Int) := by rw [IntKind.wrap_i64]; omega
 have h2 : IntKind.wrap .u64 ((i + j : Nat) : Int) = ((i + j : Nat) : Int) := by
  simp only [IntKind.wrap, IntKind.signed, IntKind.bits]; simp; omega
 rw [h1, h2]
 have h3 : shr .u64 ((i + j : Nat) : Int) 1 = (((i + j) / 2 : Nat) : Int) := by
  unfold shr
  have : (2 : Int) ^ (min (1 : Int).toNat IntKind.u64.bits) = 2 := by decide
  rw [this, Int.fdiv_eq_ediv_of_nonneg _ (by omega)]
  omega
 rw [h3, IntKind.wrap_i64]; omega
theorem less_eq (a b : Int) : cmp_Less_int_ a b = some (decide (a < b)) := by
 unfold cmp_Less_int_ cmp_isNaN_int_
 simp only [cn_bind, bne_self_eq_false, cn_f]
theorem nan_eq (a : Int) : slices_isNaN_int_ a = some false := by
 unfold slices_isNaN_int_
 simp
theorem search_end {l : List Int} {x : Int} {i : Nat} (hs : l.Pairwise (· < ·)) (hn : l.length < 4611686018427387904) (hi : i ≤ l.length) (h1 : ∀ q (h : q < l.length), q < i → l[q] < x) (h2 : ∀ q (h : q < l.length), i ≤ q → x ≤ l[q]) (fu : Nat) :
  slices_BinarySearch___int_int__l3 (fu + 1) l x (l.length : Int) (i : Int) (i : Int) = some ((cutI l x : Int), l.contains x) := by
 have hc : cutI l x = i := cutI_eq x l i hi h1 (fun h => h2 i h (Nat.le_refl _))
 rw [slices_BinarySearch___int_int__l3, cond_f (by simp), hc]
 rcases Nat.lt_or_ge i l.length with h | h
 ·rw [cond_t (lt_t h), cond_t (inr h), cond_t (inr h), getD_nat h]
  by_cases he : l[i] = x
  ·rw [cond_t (by simpa using he)]
   have : l.contains x = true := by rw [List.contains_iff_mem, ← he]; exact List.getElem_mem h
   rw [this]
  ·rw [cond_f (by simpa using he)]
   simp only [nan_eq, cn_bind, cn_f]
   have : l.contains x = false := by
    rw [← Bool.not_eq_true, List.contains_iff_mem]
    intro hm
    obtain ⟨q, hq, rfl⟩ := List.getElem_of_mem hm
    have a1 : ¬ q < i := fun hlt => by have := h1 q hq hlt; omega
    have a2 : q ≠ i := fun e => he (by subst e; rfl)
    have a3 := List.pairwise_iff_getElem.1 hs i q h hq (by omega)
    have a4 := h2 i h (Nat.le_refl _)
    omega
   rw [this]
 ·rw [cond_f (lt_f (by omega))]
  have : l.contains x = false := by
   rw [← Bool.not_eq_true, List.contains_iff_mem]
   intro hm
   obtain ⟨q, hq, rfl⟩ := List.getElem_of_mem hm
   have := h1 q hq (by omega)
   omega
  rw [this]
theorem search_loop {l : List Int} {x : Int} (hs : l.Pairwise (· < ·)) (hn : l.length < 2000000000000000000) : ∀ (k fu i j : Nat), j - i ≤ k → k < fu → i ≤ j → j ≤ l.length → (∀ q (h : q < l.length), q < i → l[q] < x) → (∀ q (h : q < l.length), j ≤ q → x ≤ l[q]) →
  slices_BinarySearch___int_int__l3 fu l x (l.length : Int) (i : Int) (j : Int) = some ((cutI l x : Int), l.contains x) := by
 intro k
 induction k with
 | zero =>
  intro fu i j hk hf hij hj h1 h2
  obtain ⟨fu, rfl⟩ : ∃ n, fu = n + 1 := ⟨fu - 1, by omega⟩
  obtain rfl : i = j := by omega
  exact search_end hs (by omega) hj h1 h2 fu
 | succ k ih =>
  intro fu i j hk hf hij hj h1 h2
  obtain ⟨fu, rfl⟩ : ∃ n, fu = n + 1 := ⟨fu - 1, by omega⟩
  rcases Nat.lt_or_ge i j with h | h
  ·have hm : (i + j) / 2 < l.length := by omega
   rw [slices_BinarySearch___int_int__l3, cond_t (by simpa using h)]
   simp only [mid_eq (i := i) (j := j) (by omega)]
   rw [cond_t (inr hm), getD_nat hm, less_eq, cn_bind]
   by_cases hx : l[(i + j) / 2] < x
   ·rw [cond_t (by simpa using hx), w64_succ (by omega)]
    refine ih fu _ j (by omega) (by omega) (by omega) hj (fun q hq hlt => ?_) h2
    rcases Nat.lt_or_ge q ((i + j) / 2) with h' | h'
    ·have := List.pairwise_iff_getElem.1 hs q _ hq hm h'; omega
    ·obtain rfl : q = (i + j) / 2 := by omega
     exact hx
   ·rw [cond_f (by simpa using hx)]
    refine ih fu i _ (by omega) (by omega) (by omega) (by omega) h1 (fun q hq hle => ?_)
    rcases Nat.lt_or_ge ((i + j) / 2) q with h' | h'
    ·have := List.pairwise_iff_getElem.1 hs _ q hm hq h'; omega
    ·obtain rfl : q = (i + j) / 2 := by omega
     omega
  ·obtain rfl : i = j := by omega
   exact search_end hs (by omega) hj h1 h2 fu
theorem search_eq {l : List Int} (x : Int) (hs : l.Pairwise (· < ·)) (hn : l.length < 1000000000000000000) : slices_BinarySearch___int_int_ l x = some ((cutI l x : Int), l.contains x) := by
 unfold slices_BinarySearch___int_int_
 exact search_loop hs (by omega) l.length fuel 0 l.length (by omega) (by rw [fuel_eq]; omega) (by omega) (Nat.le_refl _) (fun q h hq => by omega) (fun q h hq => by omega)
theorem clone_eq {l : List Int} (h : l.length * 8 ≤ 140737488355328) : slices_Clone___int_int_ l = some l := by
 unfold slices_Clone___int_int_
 cases l with
 | nil => simp only [List.isEmpty, cn_t]; exact bothO_self _
 | cons a l => simp only [List.isEmpty, cn_f, List.nil_append]; rw [cond_t (by simpa using h)]
/-! ### Valid lists -/
def ascB : Int → List Int → Bool
 | _, [] => true
 | a, x :: r => cond (decide (x ≤ a)) false (cond (decide (65535 < x)) false (ascB x r))
theorem asc_cons {a x : Int} {r : List Int} : ascB a (x :: r) = true ↔ a < x ∧ x ≤ 65535 ∧ ascB x r = true := by
 rw [ascB]
 by_cases h1 : x ≤ a
 ·rw [cond_t (by simpa using h1)]; simp; omega
 ·rw [cond_f (by simpa using h1)]
  by_cases h2 : 65535 < x
  ·rw [cond_t (by simpa using h2)]; simp; omega
  ·rw [cond_f (by simpa using h2)]; constructor
   ·intro h; exact ⟨by omega, by omega, h⟩
   ·exact fun h => h.2.2
theorem asc_mem : ∀ {l : List Int} {a : Int}, ascB a l = true → ∀ x ∈ l, a < x ∧ x ≤ 65535
 | [], _, _, _, h => by simp at h
 | y :: r, a, h, x, hx => by
  obtain ⟨h1, h2, h3⟩ := asc_cons.1 h
  rcases List.mem_cons.1 hx with rfl | hx
  ·exact ⟨h1, h2⟩
  ·have := asc_mem h3 x hx; omega
theorem asc_pair : ∀ {l : List Int} {a : Int}, ascB a l = true → l.Pairwise (· < ·)
 | [], _, _ => .nil
 | y :: r, a, h => by
  obtain ⟨h1, h2, h3⟩ := asc_cons.1 h
  exact .cons (fun x hx => (asc_mem h3 x hx).1) (asc_pair h3)
def checkI (l : List Int) : Int := cond (decide ((l.length : Int) > 32)) 5 (cond (ascB 0 l) 0 15)
theorem checkI_zero {l : List Int} (h : checkI l = 0) : l.length ≤ 32 ∧ ascB 0 l = true := by
 unfold checkI at h
 by_cases h1 : (l.length : Int) > 32
 ·rw [cond_t (by simpa using h1)] at h; cases h
 ·rw [cond_f (by simpa using h1)] at h
  cases h2 : ascB 0 l with
  | false => rw [h2] at h; cases h
  | true => exact ⟨by omega, rfl⟩
theorem inbound_Check_len (p : api_Inbox) (hl : p.IDs.length ≤ 140737488351232) : inbound_Check p = some (checkI p.IDs) := by
 unfold inbound_Check checkI
 rw [some_cond]
 refine congrArg _ ?_
 refine loop_lists (l := p.IDs) (F := fun fu i s => inbound_Check_l5 fu s p.IDs (List.length p.IDs : Int) i) (g := fun l s => some (cond (ascB s l) 0 15)) (fun _ _ => True) (fun fu s _ => ?_) (fun fu i s hi _ ih => ?_) (by omega) 0 trivial
 ·rw [inbound_Check_l5, cond_f (by simp)]; rfl
 ·rw [inbound_Check_l5, cond_t (lt_t hi), cond_t (inr hi), getD_nat hi, w64_succ (by omega), ih _ trivial, ascB]
  cases decide (p.IDs[i] ≤ s) <;> simp only [cn_t, cn_f, gt_iff_lt] <;> cases decide (65535 < p.IDs[i]) <;> rfl
theorem inbound_Check_eq (p : api_Inbox) (h : p.good) : inbound_Check p = some (checkI p.IDs) := inbound_Check_len p h.1
theorem ref13_Check_eq (p : api_Pool) (hl : p.Used.length < 100000000000000000) (h0 : p.Last = 0) : brokerref13_Check p = some (checkI p.Used) := by
 unfold brokerref13_Check checkI
 rw [some_cond]
 refine congrArg _ ?_
 have := loop_nat0 (n := p.Used.length) (F := fun fu i (_ : Unit) => brokerref13_Check_l4 fu i p) (G := fun i _ => some (cond (ascB (if i = 0 then 0 else p.Used.getD (i - 1) default) (p.Used.drop i)) 0 15)) (fun i _ => i = 0 ∨ 1 ≤ p.Used.getD (i - 1) default)
  (fun fu s _ => by
   rw [List.drop_length, brokerref13_Check_l4, cond_f (by simp), h0]; rfl)
  (fun fu i s hi hp ih => by
   rw [brokerref13_Check_l4, cond_t (lt_t hi)]
   simp only [cond_t (inr hi), getD_nat hi]
   have e1 : (p.Used.getD (i + 1 - 1) default) = p.Used[i] := by simp [hi]
   rw [List.drop_eq_getElem_cons hi, ascB]
   by_cases c0 : p.Used[i] < 1
   ·rw [cond_t (by simpa using c0)]
    rcases hp with rfl | hp
    ·rw [if_pos rfl, cond_t (x := false) (decide_eq_true (by omega))]; rfl
    ·rw [cond_t (x := false) (decide_eq_true (by split <;> omega))]; rfl
   ·have ih := ih () (.inr (by rw [e1]; omega))
    rw [w64_succ (by omega), ih]
    simp only [Nat.add_one_ne_zero, if_false, e1]
    rw [cond_f (by simpa using c0)]
    by_cases c2 : 65535 < p.Used[i]
    ·rw [cond_t (x := some 15) (by simpa using c2), decide_eq_true c2]
     cases decide (p.Used[i] ≤ if i = 0 then 0 else p.Used.getD (i - 1) default) <;> rfl
    ·rw [cond_f (x := some 15) (by simpa using c2), decide_eq_false c2]
     rcases Nat.eq_zero_or_pos i with hz | hpos
     ·have e0 : decide ((i : Int) > 0) = false := by simp; omega
      rw [e0, if_pos hz, decide_eq_false (show ¬ p.Used[i] ≤ 0 by omega)]; rfl
     ·have hq : i - 1 < p.Used.length := by omega
      have e2 : IntKind.wrap .i64 ((i : Int) - 1) = ((i - 1 : Nat) : Int) := by rw [IntKind.wrap_i64]; omega
      have e3 : (p.Used.getD (i - 1) default) = p.Used[i - 1] := by simp [hq]
      have e0 : decide ((i : Int) > 0) = true := by simp; omega
      simp only [e0, cn_t, e2, cond_t (inr hq), getD_nat hq, if_neg (show ¬ i = 0 by omega), e3]
      cases decide (p.Used[i] ≤ p.Used[i - 1]) <;> rfl) (by omega) () (.inl rfl)
 exact this
theorem ref13_Has_eq (p : api_Pool) (x : Int) (hl : p.Used.length < 100000000000000000) : brokerref13_Has p x = some (p.Used.contains x) := by
 unfold brokerref13_Has
 refine loop_list (l := p.Used) (F := fun fu i => brokerref13_Has_l2 fu x i p) (g := fun l => some (l.contains x)) (fun fu => ?_) (fun fu i hi ih => ?_) (by omega)
 ·rw [brokerref13_Has_l2, cond_f (by simp)]; rfl
 ·rw [brokerref13_Has_l2, cond_t (lt_t hi), cond_t (inr hi), getD_nat hi, w64_succ (by omega), ih, List.contains_cons]
  by_cases e : p.Used[i] = x
  ·rw [cond_t (by simpa using e)]; simp [e]
  ·rw [cond_f (by simpa using e), show (x == p.Used[i]) = false by simpa using fun h => e h.symm, Bool.false_or]
theorem ref13_Ints_eq (a b : List Int) (hl : a.length < 100000000000000000) : brokerref13_Ints a b = some (decide (a = b)) := by
 unfold brokerref13_Ints
 by_cases h : a.length = b.length
 ·rw [cond_f (by simp [h])]
  refine loop_same (F := fun fu i => brokerref13_Ints_l4 fu a b i) h (fun fu => ?_) (fun fu i h1 h2 => ?_) (by omega)
  ·rw [brokerref13_Ints_l4, cond_f (by simp)]
  ·rw [brokerref13_Ints_l4, cond_t (lt_t h1)]
   simp only [cond_t (inr h1), cond_t (inr h2), getD_nat h1, getD_nat h2]
   rw [w64_succ (by omega), cn_bne, cn_eq]
 ·rw [cond_t (by simp; omega), decide_eq_false (fun e => h (by rw [e]))]
theorem ref13_Free_eq (p : api_Pool) (x : Int) (hl : p.Used.length * 8 < 140737488355328) : brokerref13_Free p x = some (api_Pool.mk (p.Used.filter fun y => y != x) p.Last, decide ((p.Used.filter fun y => y != x).length < p.Used.length)) := by
 unfold brokerref13_Free
 have := loop_lists (l := p.Used) (F := fun fu i (w : List Int) => brokerref13_Free_l3 fu x i p (api_Pool.mk ([] : List Int) 0) w) (g := fun l w => some (api_Pool.mk (w ++ l.filter fun y => y != x) p.Last, decide ((w ++ l.filter fun y => y != x).length < p.Used.length))) (fun i w => w.length ≤ i)
  (fun fu s _ => by
   rw [brokerref13_Free_l3, cond_f (by simp)]; simp)
  (fun fu i s hi hp ih => by
   rw [brokerref13_Free_l3, cond_t (lt_t hi)]
   simp only [cond_t (inr hi), getD_nat hi]
   rw [w64_succ (by omega)]
   by_cases e : p.Used[i] = x
   ·rw [cond_f (by simp [e]), ih _ (by omega)]; simp [e]
   ·have e' : (p.Used[i] != x) = true := by simpa using e
    rw [cond_t e', cond_t (by simp; omega), ih _ (by simp; omega)]; simp [List.filter, e']) (by omega) [] (Nat.le_refl _)
 simpa using this
/-- A number taken out of an ascending list. -/
theorem asc_erase {x : Int} : ∀ {l : List Int} {a : Int}, ascB a l = true → l.contains x = true → l.take (cutI l x) ++ l.drop (cutI l x + 1) = l.filter fun y => y != x
 | [], _, _, h => by simp at h
 | y :: r, a, h, hc => by
  obtain ⟨h1, h2, h3⟩ := asc_cons.1 h
  rw [List.contains_cons] at hc
  by_cases e : x = y
  ·subst e
   have : cutI (x :: r) x = 0 := by simp [cutI, List.takeWhile]
   rw [this]
   simp only [List.take_zero, List.nil_append, Nat.zero_add, List.drop_succ_cons, List.drop_zero]
   rw [List.filter_cons_of_neg (by simp), List.filter_eq_self.2]
   intro q hq
   have := asc_mem h3 q hq
   simp; omega
  ·have hm : r.contains x = true := by simpa [e] using hc
   have hx := asc_mem h3 x (by simpa using hm)
   have ih := asc_erase h3 hm
   have hcut : cutI (y :: r) x = cutI r x + 1 := by simp [cutI, List.takeWhile, hx.1]
   rw [hcut, List.filter_cons_of_pos (by simpa using fun h => e h.symm), ← ih]
   simp
theorem filter_self {x : Int} {l : List Int} (h : l.contains x = false) : (l.filter fun y => y != x) = l := by
 rw [List.filter_eq_self]
 intro q hq
 simp only [bne_iff_ne, ne_eq]
 rintro rfl
 rw [← Bool.not_eq_true, List.contains_iff_mem] at h
 exact h hq
/-- A number put into an ascending list. -/
def withI (l : List Int) (x : Int) : List Int := (l.takeWhile fun y => decide (y < x)) ++ [x] ++ l.dropWhile fun y => decide (y < x)
end Md
end PX
