import Derived.Test.YtojlmojebnlmdaaGreatDoorSessA
set_option linter.unusedVariables false
set_option linter.unusedSimpArgs false
namespace PX
open Go
namespace Md
def okM (m : aA) : Prop := m.Props.length * 32 ≤ 140737488351232
def okQ (q : List aA) : Prop := q.length ≤ 1000000 ∧ ∀ m ∈ q, okM m
theorem shift {α : Type} (q : List α) (h : 0 < q.length) :
  List.take q.length (List.take (q.length - Int.toNat 1) (List.drop (Int.toNat 1) q)) ++ List.drop (min (List.take (q.length - Int.toNat 1) (List.drop (Int.toNat 1) q)).length q.length) q = q.tail ++ [q[q.length - 1]] := by
 have e : Int.toNat 1 = 1 := rfl
 rw [e, List.drop_one, List.take_of_length_le (l := q.tail) (by simp), List.take_of_length_le (by simp)]
 congr 1
 rw [List.length_tail, Nat.min_eq_left (by omega), List.drop_eq_getElem_cons (by omega), List.drop_eq_nil_of_le (by omega)]
def aul (q : List aA) (m : aA) (max pol : Int) : List aA × List aA × Bool :=
 if (q.length : Int) < max then (q ++ [m], [], false)
 else if pol ≠ 1 ∨ max < 1 then (q, [m], pol == 3)
 else (q.tail ++ [m], [q.headD default], false)
def live (now : Int) (m : aA) : Bool := !(m.Expires != 0 && decide (now ≥ m.Expires))
end Md
end PX
