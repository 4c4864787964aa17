import Derived.Test.YthgmhhgmnegocaaGreatDoorSlowB
set_option linter.unusedVariables false
set_option linter.unusedSimpArgs false
namespace PX
open Go
namespace Md
def lv (m : aF) : Bool := m.Level != 0
theorem cz1 {b : Bool} {x y : Int} (h : cond b x y = 0) (hy : y ≠ 0) : x = 0 := by cases b with | true => exact h | false => exact absurd h hy
theorem cz2 {b : Bool} {x y : Int} (h : cond b x y = 0) (hx : x ≠ 0) : y = 0 := by cases b with | true => exact absurd h hx | false => exact h
theorem cz3 {b : Bool} {x y : Int} {P : Prop} (h : cond b x y = 0) (h1 : x = 0 → P) (h2 : y = 0 → P) : P := by cases b with | true => exact h1 h | false => exact h2 h
theorem adA {m : aF} (h : j5 m = 0) : m.Props.length ≤ 8 := by
 have key : vT m.Props = 0 → m.Props.length ≤ 8 := fun h => by
  unfold vT at h
  by_cases c : 8 < m.Props.length
  ·rw [aL (by simpa using c)] at h; cases h
  ·omega
 unfold j5 at h
 have h := cz2 (cz1 h (by decide)) (by decide)
 have h := cz1 (cz1 (cz1 h (by decide)) (by decide)) (by decide)
 exact cz3 h (fun h => key (cz1 h (by decide))) (fun h => key (cz1 (cz1 h (by decide)) (by decide)))
end Md
end PX
