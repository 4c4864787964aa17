import Derived.Test.YtojlmojebnlmdaaGreatDoorSessA
set_option linter.unusedVariables false
set_option linter.unusedSimpArgs false
namespace PX
open Go
namespace Md
def okM (m : aA) : Prop := m.Props.length * 32 ≤ 140737488351232
def okQ (q : List aA) : Prop := q.length ≤ 1000000 ∧ ∀ m ∈ q, okM m
theorem aui (l : List aA) (hl : okQ l) : ∀ (k i fu : Nat), i + k = l.length → k < fu → iP fu l l (i : Int) = some true := by
 intro k
 have h1 := hl.1
 induction k with
 | zero =>
  intro i fu hi hf
  obtain ⟨fu, rfl⟩ : ∃ n, fu = n + 1 := ⟨fu - 1, by omega⟩
  rw [iP, aT (lU (by omega))]
 | succ k ih =>
  intro i fu hi hf
  obtain ⟨fu, rfl⟩ : ∃ n, fu = n + 1 := ⟨fu - 1, by omega⟩
  have hm := hl.2 _ (List.getElem_mem (l := l) (n := i) (by omega))
  rw [iP, aN (dU (by omega)), aN (inr (by omega)), aN (inr (by omega)), bU (by omega), n6 _ _ (by unfold okM at hm; omega), bB, aT (by simp), bM (by omega)]
  exact ih (i + 1) fu (by omega) (by omega)
theorem aw7 (l : List aA) (hl : okQ l) : kX l l = some true := by
 unfold kX
 rw [aT (by simp)]
 exact aui l hl l.length 0 fuel (by omega) (by have := hl.1; rw [fQ]; omega)
def nI (q : List aA) (m : aA) (max pol : Int) : List aA × List aA × Bool :=
 if (q.length : Int) < max then (q ++ [m], [], false)
 else if pol ≠ 1 ∨ max < 1 then (q, [m], pol == 3)
 else (q.tail ++ [m], [q.headD default], false)
def live (now : Int) (m : aA) : Bool := !(m.Expires != 0 && decide (now ≥ m.Expires))
end Md
end PX
