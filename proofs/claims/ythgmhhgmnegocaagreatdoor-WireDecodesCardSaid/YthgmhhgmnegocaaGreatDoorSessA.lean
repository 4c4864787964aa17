import Derived.Test.YthgmhhgmnegocaaGreatDoorInts
import Derived.Test.YthgmhhgmnegocaaGreatDoorPktC
import Derived.KernelRfl
set_option linter.unusedVariables false
set_option linter.unusedSimpArgs false
namespace PX
open Go
namespace Md
def leO (p : Option Str) (f : Str) : Bool := match p with | none => false | some g => Op.bytesLess f g || f == g
def zN : Option Str → List aH → Int
 | _, [] => 0
 | p, x :: r => cond (w9 x == 0) (cond (leO p x.Filter) 22 (zN (some x.Filter) r)) (w9 x)
def avL (l : List aH) : Int := cond (decide ((l.length : Int) > 32)) 5 (zN none l)
def avK (l : List aH) (i : Nat) : Option Str := if i = 0 then none else some (l.getD (i - 1) default).Filter
def atA (l : List aF) : Int := cond (decide ((l.length : Int) > 256)) 5 (eH j5 l)
def aEP (x : Int) : Int := cond (decide (x < 0)) 1 (cond (decide (x > 65535)) 1 0)
end Md
end PX
