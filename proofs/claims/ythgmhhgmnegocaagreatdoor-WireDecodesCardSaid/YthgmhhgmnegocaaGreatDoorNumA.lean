import Derived.Test.YthgmhhgmnegocaaGreatDoorSessA
set_option linter.unusedVariables false
set_option linter.unusedSimpArgs false
namespace PX
open Go
namespace Md
theorem rR (x : Int) : IntKind.wrap .u64 x = x % 18446744073709551616 := by
 simp only [IntKind.wrap, IntKind.signed, IntKind.bits]; simp
theorem wu8 (x : Int) : IntKind.wrap .u8 x = x % 256 := by
 simp only [IntKind.wrap, IntKind.signed, IntKind.bits]; simp
theorem sZ {x : Int} (h0 : -9223372036854775808 ≤ x) (h1 : x ≤ 9223372036854775807) : okI .i64 x := by
 simp only [okI, Go.Lit.wf, Go.IntKind.min, Go.IntKind.max, Go.IntKind.signed, Go.IntKind.bits, Bool.and_eq_true, decide_eq_true_eq, if_true]
 omega
def zzI (x : Int) : Int := if 0 ≤ x then 2 * x else -2 * x - 1
def kN : Nat → Int → List Int
 | 0, _ => []
 | n + 1, x => if x ≥ 128 then (x % 128 + 128) :: kN n (x / 128) else [x]
def cV (x : Int) : List Int := kN 10 (zzI x)
theorem abU {x : Int} (h0 : -9223372036854775808 ≤ x) (h1 : x ≤ 9223372036854775807) : 0 ≤ zzI x ∧ zzI x < 18446744073709551616 := by
 unfold zzI
 split <;> omega
end Md
end PX
