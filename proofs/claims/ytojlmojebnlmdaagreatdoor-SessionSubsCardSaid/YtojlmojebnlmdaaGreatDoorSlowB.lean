import Derived.Test.YtojlmojebnlmdaaGreatDoorSessA
set_option linter.unusedVariables false
set_option linter.unusedSimpArgs false
namespace PX
open Go
namespace Md
def okM (m : aA) : Prop := m.Props.length * 32 ≤ 140737488351232
def okQ (q : List aA) : Prop := q.length ≤ 1000000 ∧ ∀ m ∈ q, okM m
theorem aoI (l : List aA) (hl : okQ l) : ∀ (k i fu : Nat), i + k = l.length → k < fu → g7 fu l l (i : Int) = some true := by
 intro k
 have h1 := hl.1
 induction k with
 | zero =>
  intro i fu hi hf
  obtain ⟨fu, rfl⟩ : ∃ n, fu = n + 1 := ⟨fu - 1, by omega⟩
  rw [g7, aT (tB (by omega))]
 | succ k ih =>
  intro i fu hi hf
  obtain ⟨fu, rfl⟩ : ∃ n, fu = n + 1 := ⟨fu - 1, by omega⟩
  have hm := hl.2 _ (List.getElem_mem (l := l) (n := i) (by omega))
  rw [g7, aO (jX (by omega)), aO (inr (by omega)), aO (inr (by omega)), cE (by omega), w1 _ _ (by unfold okM at hm; omega), bY, aT (by simp), bU (by omega)]
  exact ih (i + 1) fu (by omega) (by omega)
theorem ar6 (l : List aA) (hl : okQ l) : nT l l = some true := by
 unfold nT
 rw [aT (by simp)]
 exact aoI l hl l.length 0 fuel (by omega) (by have := hl.1; rw [j8]; omega)
theorem shift {α : Type} (q : List α) (h : 0 < q.length) :
  List.take q.length (List.take (q.length - Int.toNat 1) (List.drop (Int.toNat 1) q)) ++ List.drop (min (List.take (q.length - Int.toNat 1) (List.drop (Int.toNat 1) q)).length q.length) q = q.tail ++ [q[q.length - 1]] := by
 have e : Int.toNat 1 = 1 := rfl
 rw [e, List.drop_one, List.take_of_length_le (l := q.tail) (by simp), List.take_of_length_le (by simp)]
 congr 1
 rw [List.length_tail, Nat.min_eq_left (by omega), List.drop_eq_getElem_cons (by omega), List.drop_eq_nil_of_le (by omega)]
def aw5 (q : List aA) (m : aA) (max pol : Int) : List aA × List aA × Bool :=
 if (q.length : Int) < max then (q ++ [m], [], false)
 else if pol ≠ 1 ∨ max < 1 then (q, [m], pol == 3)
 else (q.tail ++ [m], [q.headD default], false)
def live (now : Int) (m : aA) : Bool := !(m.Expires != 0 && decide (now ≥ m.Expires))
end Md
end PX
