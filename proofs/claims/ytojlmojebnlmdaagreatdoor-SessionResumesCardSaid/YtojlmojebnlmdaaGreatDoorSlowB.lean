import Derived.Test.YtojlmojebnlmdaaGreatDoorSessA
set_option linter.unusedVariables false
set_option linter.unusedSimpArgs false
namespace PX
open Go
namespace Md
def okM (m : aA) : Prop := m.Props.length * 32 ≤ 140737488351232
def okQ (q : List aA) : Prop := q.length ≤ 1000000 ∧ ∀ m ∈ q, okM m
theorem atX (l : List aA) (hl : okQ l) : ∀ (k i fu : Nat), i + k = l.length → k < fu → iN fu l l (i : Int) = some true := by
 intro k
 have h1 := hl.1
 induction k with
 | zero =>
  intro i fu hi hf
  obtain ⟨fu, rfl⟩ : ∃ n, fu = n + 1 := ⟨fu - 1, by omega⟩
  rw [iN, aU (mX (by omega))]
 | succ k ih =>
  intro i fu hi hf
  obtain ⟨fu, rfl⟩ : ∃ n, fu = n + 1 := ⟨fu - 1, by omega⟩
  have hm := hl.2 _ (List.getElem_mem (l := l) (n := i) (by omega))
  rw [iN, aO (eA (by omega)), aO (inr (by omega)), aO (inr (by omega)), bV (by omega), nX _ _ (by unfold okM at hm; omega), bD, aU (by simp), bN (by omega)]
  exact ih (i + 1) fu (by omega) (by omega)
theorem aAu (l : List aA) (hl : okQ l) : kS l l = some true := by
 unfold kS
 rw [aU (by simp)]
 exact atX l hl l.length 0 fuel (by omega) (by have := hl.1; rw [fX]; omega)
def lO (q : List aA) (m : aA) (max pol : Int) : List aA × List aA × Bool :=
 if (q.length : Int) < max then (q ++ [m], [], false)
 else if pol ≠ 1 ∨ max < 1 then (q, [m], pol == 3)
 else (q.tail ++ [m], [q.headD default], false)
def live (now : Int) (m : aA) : Bool := !(m.Expires != 0 && decide (now ≥ m.Expires))
theorem agw (m : aA) (now : Int) : sQ m now = some (!(live now m)) := by
 unfold sQ live
 cases h : m.Expires != 0 <;> simp
theorem alF (m : aA) (now : Int) : rD m now = some (!(live now m)) := agw m now
end Md
end PX
