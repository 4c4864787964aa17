import Derived.Test.YtmcpanmcgpjfiaaGreatDoorSessA
set_option linter.unusedVariables false
set_option linter.unusedSimpArgs false
namespace PX
open Go
namespace Md
def okM (m : aC) : Prop := m.Props.length * 32 ≤ 140737488351232
def okQ (q : List aC) : Prop := q.length ≤ 1000000 ∧ ∀ m ∈ q, okM m
theorem awZ (l : List aC) (hl : okQ l) : ∀ (k i fu : Nat), i + k = l.length → k < fu → kI fu l l (i : Int) = some true := by
 intro k
 have h1 := hl.1
 induction k with
 | zero =>
  intro i fu hi hf
  obtain ⟨fu, rfl⟩ : ∃ n, fu = n + 1 := ⟨fu - 1, by omega⟩
  rw [kI, aS (aaL (by omega))]
 | succ k ih =>
  intro i fu hi hf
  obtain ⟨fu, rfl⟩ : ∃ n, fu = n + 1 := ⟨fu - 1, by omega⟩
  have hm := hl.2 _ (List.getElem_mem (l := l) (n := i) (by omega))
  rw [kI, aL (hI (by omega)), aL (inr (by omega)), aL (inr (by omega)), cI (by omega), acF _ _ (by unfold okM at hm; omega), aY, aS (by simp), cF (by omega)]
  exact ih (i + 1) fu (by omega) (by omega)
theorem aAY (l : List aC) (hl : okQ l) : m8 l l = some true := by
 unfold m8
 rw [aS (by simp)]
 exact awZ l hl l.length 0 fuel (by omega) (by have := hl.1; rw [hY]; omega)
def apI (q : List aC) (m : aC) (max pol : Int) : List aC × List aC × Bool :=
 if (q.length : Int) < max then (q ++ [m], [], false)
 else if pol ≠ 1 ∨ max < 1 then (q, [m], pol == 3)
 else (q.tail ++ [m], [q.headD default], false)
def live (now : Int) (m : aC) : Bool := !(m.Expires != 0 && decide (now ≥ m.Expires))
end Md
end PX
