import Derived.Test.YtojlmojebnlmdaaGreatDoorSessA
set_option linter.unusedVariables false
set_option linter.unusedSimpArgs false
namespace PX
open Go
namespace Md
def okM (m : aA) : Prop := m.Props.length * 32 ≤ 140737488351232
def okQ (q : List aA) : Prop := q.length ≤ 1000000 ∧ ∀ m ∈ q, okM m
theorem aam {m : aA} (hm : okM m) : nY m = some m := by
 unfold nY
 unfold okM at hm
 rw [aO (by simp <;> omega)]
theorem at1 (l : List aA) (hl : okQ l) : ∀ (k i fu : Nat), i + k = l.length → k < fu → oX fu l (l.length : Int) (i : Int) (l.take i) = some l := by
 intro k
 have h1 := hl.1
 induction k with
 | zero =>
  intro i fu hi hf
  obtain ⟨fu, rfl⟩ : ∃ n, fu = n + 1 := ⟨fu - 1, by omega⟩
  rw [oX, aU (mX (by omega)), List.take_of_length_le (by omega)]
 | succ k ih =>
  intro i fu hi hf
  obtain ⟨fu, rfl⟩ : ∃ n, fu = n + 1 := ⟨fu - 1, by omega⟩
  rw [oX, aO (eA (by omega)), aO (inr (by omega)), bV (by omega), cQ (aam (hl.2 _ (List.getElem_mem _))), aO (by simp <;> omega), bN (by omega), abi]
  exact ih (i + 1) fu (by omega) (by omega)
theorem ar2 (l : List aA) (hl : okQ l) {n : Int} (h0 : 0 ≤ n) (h1 : n ≤ 1000) : aae l n = some l := by
 have h2 := hl.1
 unfold aae
 rw [w64 (by omega) (by omega), aO (by simp <;> omega)]
 exact at1 l hl l.length 0 fuel (by omega) (by rw [fX]; omega)
theorem shift {α : Type} (q : List α) (h : 0 < q.length) :
  List.take q.length (List.take (q.length - Int.toNat 1) (List.drop (Int.toNat 1) q)) ++ List.drop (min (List.take (q.length - Int.toNat 1) (List.drop (Int.toNat 1) q)).length q.length) q = q.tail ++ [q[q.length - 1]] := by
 have e : Int.toNat 1 = 1 := rfl
 rw [e, List.drop_one, List.take_of_length_le (l := q.tail) (by simp), List.take_of_length_le (by simp)]
 congr 1
 rw [List.length_tail, Nat.min_eq_left (by omega), List.drop_eq_getElem_cons (by omega), List.drop_eq_nil_of_le (by omega)]
def lO (q : List aA) (m : aA) (max pol : Int) : List aA × List aA × Bool :=
 if (q.length : Int) < max then (q ++ [m], [], false)
 else if pol ≠ 1 ∨ max < 1 then (q, [m], pol == 3)
 else (q.tail ++ [m], [q.headD default], false)
theorem awg {q : List aA} (hq : okQ q) {m : aA} (hm : okM m) {max pol : Int} : abj q m max pol = some (lO q m max pol) := by
 have h1 := hq.1
 unfold abj lO
 rw [cQ (ar2 q hq (by omega) (by omega))]
 by_cases c1 : (q.length : Int) < max
 ·rw [if_pos c1, aO (by simpa using c1), cQ (aam hm), aO (by simp <;> omega)]
 ·rw [if_neg c1, aU (by simpa using c1)]
  by_cases c2 : pol = 1
  ·rw [aU (by simp [c2])]
   by_cases c3 : max < 1
   ·rw [if_pos (Or.inr c3), aO (by simpa using c3), cQ (aam hm)]
   ·have hl : 0 < q.length := by omega
    rw [if_neg (by omega), aU (by simpa using c3)]
    unfold zV
    simp only [shift q hl]
    rw [aO (by simp <;> omega), aO (by simp <;> omega), cQ (aam hm), w64 (by simp <;> omega) (by simp <;> omega), aO (by simp <;> omega)]
    congr 1
    refine Prod.ext ?_ (Prod.ext ?_ rfl)
    ·have e : Int.toNat (((q.tail ++ [q[q.length - 1]]).length : Int) - 1) = q.tail.length := by simp
     rw [e, List.set_append_right _ _ (Nat.le_refl _)]
     simp
    ·cases q with
     | nil => simp at hl
     | cons x q => rfl
  ·rw [if_pos (Or.inl c2), aO (by simpa using c2), cQ (aam hm)]
def live (now : Int) (m : aA) : Bool := !(m.Expires != 0 && decide (now ≥ m.Expires))
theorem agw (m : aA) (now : Int) : sQ m now = some (!(live now m)) := by
 unfold sQ live
 cases h : m.Expires != 0 <;> simp
theorem alF (m : aA) (now : Int) : rD m now = some (!(live now m)) := agw m now
end Md
end PX
