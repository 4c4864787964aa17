import Derived.Test.YtojlmojebnlmdaaGreatDoorMod
import Derived.Test.YtojlmojebnlmdaaGreatDoorPXd
set_option linter.unusedVariables false
set_option linter.unusedSimpArgs false
namespace PX
open Go
namespace Md
def aew (b : UInt8) : Bool := decide (97 ≤ b.toNat) && decide (b.toNat ≤ 122)
def aie (b : UInt8) : Bool := decide (48 ≤ b.toNat) && decide (b.toNat ≤ 57)
def ace (b : UInt8) : Bool := aew b || aie b || decide (b.toNat = 45)
def tD (s : Str) : Bool := decide (1 ≤ s.length) && decide (s.length ≤ 16) && aew (s.getD 0 0) && s.all ace
theorem am7 {s : Str} {i : Nat} (h : i < s.length) (f : UInt8 → Bool) : (s.drop i).all f = (f s[i] && (s.drop (i + 1)).all f) := by
 rw [List.drop_eq_getElem_cons h, List.all_cons]
end Md
end PX
