import Derived.Test.YtahbfpamckocmaaGreatDoorSessA
set_option linter.unusedVariables false
set_option linter.unusedSimpArgs false
namespace PX
open Go
namespace Md
def okM (m : aA) : Prop := m.Props.length * 32 ≤ 140737488351232
def okQ (q : List aA) : Prop := q.length ≤ 1000000 ∧ ∀ m ∈ q, okM m
theorem wF {m : aA} (hm : okM m) : mG m = some m := by
 unfold mG
 unfold okM at hm
 rw [aM (by simp <;> omega)]
theorem apc (l : List aA) (hl : okQ l) : ∀ (k i fu : Nat), i + k = l.length → k < fu → nF fu l (l.length : Int) (i : Int) (l.take i) = some l := by
 intro k
 have h1 := hl.1
 induction k with
 | zero =>
  intro i fu hi hf
  obtain ⟨fu, rfl⟩ : ∃ n, fu = n + 1 := ⟨fu - 1, by omega⟩
  rw [nF, aN (zG (by omega)), List.take_of_length_le (by omega)]
 | succ k ih =>
  intro i fu hi hf
  obtain ⟨fu, rfl⟩ : ∃ n, fu = n + 1 := ⟨fu - 1, by omega⟩
  rw [nF, aM (lL (by omega)), aM (inr (by omega)), dV (by omega), iC (wF (hl.2 _ (List.getElem_mem _))), aM (by simp <;> omega), cG (by omega), zA]
  exact ih (i + 1) fu (by omega) (by omega)
theorem aox (l : List aA) (hl : okQ l) {n : Int} (h0 : 0 ≤ n) (h1 : n ≤ 1000) : wS l n = some l := by
 have h2 := hl.1
 unfold wS
 rw [w64 (by omega) (by omega), aM (by simp <;> omega)]
 exact apc l hl l.length 0 fuel (by omega) (by rw [fU]; omega)
theorem shift {α : Type} (q : List α) (h : 0 < q.length) :
  List.take q.length (List.take (q.length - Int.toNat 1) (List.drop (Int.toNat 1) q)) ++ List.drop (min (List.take (q.length - Int.toNat 1) (List.drop (Int.toNat 1) q)).length q.length) q = q.tail ++ [q[q.length - 1]] := by
 have e : Int.toNat 1 = 1 := rfl
 rw [e, List.drop_one, List.take_of_length_le (l := q.tail) (by simp), List.take_of_length_le (by simp)]
 congr 1
 rw [List.length_tail, Nat.min_eq_left (by omega), List.drop_eq_getElem_cons (by omega), List.drop_eq_nil_of_le (by omega)]
def nM (q : List aA) (m : aA) (max pol : Int) : List aA × List aA × Bool :=
 if (q.length : Int) < max then (q ++ [m], [], false)
 else if pol ≠ 1 ∨ max < 1 then (q, [m], pol == 3)
 else (q.tail ++ [m], [q.headD default], false)
theorem arF {q : List aA} (hq : okQ q) {m : aA} (hm : okM m) {max pol : Int} : yR q m max pol = some (nM q m max pol) := by
 have h1 := hq.1
 unfold yR nM
 rw [iC (aox q hq (by omega) (by omega))]
 by_cases c1 : (q.length : Int) < max
 ·rw [if_pos c1, aM (by simpa using c1), iC (wF hm), aM (by simp <;> omega)]
 ·rw [if_neg c1, aN (by simpa using c1)]
  by_cases c2 : pol = 1
  ·rw [aN (by simp [c2])]
   by_cases c3 : max < 1
   ·rw [if_pos (Or.inr c3), aM (by simpa using c3), iC (wF hm)]
   ·have hl : 0 < q.length := by omega
    rw [if_neg (by omega), aN (by simpa using c3)]
    unfold w5
    simp only [shift q hl]
    rw [aM (by simp <;> omega), aM (by simp <;> omega), iC (wF hm), w64 (by simp <;> omega) (by simp <;> omega), aM (by simp <;> omega)]
    congr 1
    refine Prod.ext ?_ (Prod.ext ?_ rfl)
    ·have e : Int.toNat (((q.tail ++ [q[q.length - 1]]).length : Int) - 1) = q.tail.length := by simp
     rw [e, List.set_append_right _ _ (Nat.le_refl _)]
     simp
    ·cases q with
     | nil => simp at hl
     | cons x q => rfl
  ·rw [if_pos (Or.inl c2), aM (by simpa using c2), iC (wF hm)]
def live (now : Int) (m : aA) : Bool := !(m.Expires != 0 && decide (now ≥ m.Expires))
theorem amE (m : aA) (now : Int) : pH m now = some (!(live now m)) := by
 unfold pH live
 cases h : m.Expires != 0 <;> simp
end Md
end PX
