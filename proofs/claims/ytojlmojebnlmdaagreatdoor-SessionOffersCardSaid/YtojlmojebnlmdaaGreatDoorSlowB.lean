import Derived.Test.YtojlmojebnlmdaaGreatDoorSessA
set_option linter.unusedVariables false
set_option linter.unusedSimpArgs false
namespace PX
open Go
namespace Md
def okM (m : aA) : Prop := m.Props.length * 32 ≤ 140737488351232
def okQ (q : List aA) : Prop := q.length ≤ 1000000 ∧ ∀ m ∈ q, okM m
theorem anv (l : List aA) (hl : okQ l) : ∀ (k i fu : Nat), i + k = l.length → k < fu → gM fu l l (i : Int) = some true := by
 intro k
 have h1 := hl.1
 induction k with
 | zero =>
  intro i fu hi hf
  obtain ⟨fu, rfl⟩ : ∃ n, fu = n + 1 := ⟨fu - 1, by omega⟩
  rw [gM, bD (xC (by omega))]
 | succ k ih =>
  intro i fu hi hf
  obtain ⟨fu, rfl⟩ : ∃ n, fu = n + 1 := ⟨fu - 1, by omega⟩
  have hm := hl.2 _ (List.getElem_mem (l := l) (n := i) (by omega))
  rw [gM, aR (nK (by omega)), aR (inr (by omega)), aR (inr (by omega)), dD (by omega), wH _ _ (by unfold okM at hm; omega), dC, bD (by simp), dA (by omega)]
  exact ih (i + 1) fu (by omega) (by omega)
theorem arq (l : List aA) (hl : okQ l) : nD l l = some true := by
 unfold nD
 rw [bD (by simp)]
 exact anv l hl l.length 0 fuel (by omega) (by have := hl.1; rw [p8]; omega)
theorem uU {m : aA} (hm : okM m) : lA m = some m := by
 unfold lA
 unfold okM at hm
 rw [aR (by simp <;> omega)]
theorem amP (l : List aA) (hl : okQ l) : ∀ (k i fu : Nat), i + k = l.length → k < fu → lY fu l (l.length : Int) (i : Int) (l.take i) = some l := by
 intro k
 have h1 := hl.1
 induction k with
 | zero =>
  intro i fu hi hf
  obtain ⟨fu, rfl⟩ : ∃ n, fu = n + 1 := ⟨fu - 1, by omega⟩
  rw [lY, bD (xC (by omega)), List.take_of_length_le (by omega)]
 | succ k ih =>
  intro i fu hi hf
  obtain ⟨fu, rfl⟩ : ∃ n, fu = n + 1 := ⟨fu - 1, by omega⟩
  rw [lY, aR (nK (by omega)), aR (inr (by omega)), dD (by omega), eE (uU (hl.2 _ (List.getElem_mem _))), aR (by simp <;> omega), dA (by omega), aau]
  exact ih (i + 1) fu (by omega) (by omega)
theorem al9 (l : List aA) (hl : okQ l) {n : Int} (h0 : 0 ≤ n) (h1 : n ≤ 1000) : uS l n = some l := by
 have h2 := hl.1
 unfold uS
 rw [w64 (by omega) (by omega), aR (by simp <;> omega)]
 exact amP l hl l.length 0 fuel (by omega) (by rw [p8]; omega)
theorem shift {α : Type} (q : List α) (h : 0 < q.length) :
  List.take q.length (List.take (q.length - Int.toNat 1) (List.drop (Int.toNat 1) q)) ++ List.drop (min (List.take (q.length - Int.toNat 1) (List.drop (Int.toNat 1) q)).length q.length) q = q.tail ++ [q[q.length - 1]] := by
 have e : Int.toNat 1 = 1 := rfl
 rw [e, List.drop_one, List.take_of_length_le (l := q.tail) (by simp), List.take_of_length_le (by simp)]
 congr 1
 rw [List.length_tail, Nat.min_eq_left (by omega), List.drop_eq_getElem_cons (by omega), List.drop_eq_nil_of_le (by omega)]
def nF (q : List aA) (m : aA) (max pol : Int) : List aA × List aA × Bool :=
 if (q.length : Int) < max then (q ++ [m], [], false)
 else if pol ≠ 1 ∨ max < 1 then (q, [m], pol == 3)
 else (q.tail ++ [m], [q.headD default], false)
theorem ao5 {q : List aA} (hq : okQ q) {m : aA} (hm : okM m) {max pol : Int} : w6 q m max pol = some (nF q m max pol) := by
 have h1 := hq.1
 unfold w6 nF
 rw [eE (al9 q hq (by omega) (by omega))]
 by_cases c1 : (q.length : Int) < max
 ·rw [if_pos c1, aR (by simpa using c1), eE (uU hm), aR (by simp <;> omega)]
 ·rw [if_neg c1, bD (by simpa using c1)]
  by_cases c2 : pol = 1
  ·rw [bD (by simp [c2])]
   by_cases c3 : max < 1
   ·rw [if_pos (Or.inr c3), aR (by simpa using c3), eE (uU hm)]
   ·have hl : 0 < q.length := by omega
    rw [if_neg (by omega), bD (by simpa using c3)]
    unfold tO
    simp only [shift q hl]
    rw [aR (by simp <;> omega), aR (by simp <;> omega), eE (uU hm), w64 (by simp <;> omega) (by simp <;> omega), aR (by simp <;> omega)]
    congr 1
    refine Prod.ext ?_ (Prod.ext ?_ rfl)
    ·have e : Int.toNat (((q.tail ++ [q[q.length - 1]]).length : Int) - 1) = q.tail.length := by simp
     rw [e, List.set_append_right _ _ (Nat.le_refl _)]
     simp
    ·cases q with
     | nil => simp at hl
     | cons x q => rfl
  ·rw [if_pos (Or.inl c2), aR (by simpa using c2), eE (uU hm)]
theorem aj1 {q : List aA} (hq : okQ q) {m : aA} {max pol : Int} : nM q m max pol = some (nF q m max pol) := by
 have h1 := hq.1
 unfold nM nF
 by_cases c1 : (q.length : Int) < max
 ·rw [if_pos c1, aR (by simpa using c1), aR (by simp <;> omega), aR (by simp <;> omega)]
  simp
 ·rw [if_neg c1, bD (by simpa using c1)]
  by_cases c2 : pol = 1
  ·rw [aR (by simp [c2])]
   by_cases c3 : max < 1
   ·rw [if_pos (Or.inr c3), bD (by simp <;> omega)]; rfl
   ·have hl : 0 < q.length := by omega
    have e1 : bO q (some 1) none = q.tail := by simp [bO]
    rw [if_neg (by omega), aR (by simp <;> omega), aR (by simp <;> omega), e1, aR (by simp <;> omega), aR (by simp <;> omega), aR (by simp <;> omega)]
    congr 1
    refine Prod.ext (by simp) (Prod.ext ?_ rfl)
    cases q with
    | nil => simp at hl
    | cons x q => rfl
  ·rw [if_pos (Or.inl c2), bD (by simpa using c2)]; rfl
def live (now : Int) (m : aA) : Bool := !(m.Expires != 0 && decide (now ≥ m.Expires))
end Md
end PX
