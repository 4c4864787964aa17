import Derived.Test.YtojlmojebnlmdaaGreatDoorSessP
set_option linter.unusedVariables false
set_option linter.unusedSimpArgs false
namespace PX
open Go
namespace Md
def vG (id : Int) : aC := aC.mk 6 id false (aA.mk ([] : Str) ([] : Str) 0 false 0 0 ([] : Str) 0 ([] : List aG)) ([] : Str) ([] : Str) false 0 0 0 (aT.mk false 0 (aA.mk ([] : Str) ([] : Str) 0 false 0 0 ([] : Str) 0 ([] : List aG))) false 0 ([] : List aF) ([] : List Str) ([] : List Int)
theorem ad2 (id : Int) : oO id = some (vG id) := rfl
theorem abR (id : Int) : kZ id = some (vG id) := rfl
theorem ahx (id : Int) : pOK (vG id) := ⟨Nat.zero_le _, Nat.zero_le _, rfl, rfl, rfl⟩
def nO (w : aI) (A : List aD) (f : aD) (B : List aD) : aI := aI.mk w.Limit (A ++ B) ⟨w.Pool.Used.filter (fun y => y != f.ID), w.Pool.Last⟩
def p9 (w : aI) (A : List aD) (f : aD) (B : List aD) : aI := aI.mk w.Limit (A ++ aD.mk f.ID 2 f.Message :: B) w.Pool
end Md
end PX
