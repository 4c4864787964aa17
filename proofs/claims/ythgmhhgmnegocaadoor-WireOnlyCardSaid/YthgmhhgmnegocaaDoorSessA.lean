import Derived.Test.YthgmhhgmnegocaaDoorInts
import Derived.Test.YthgmhhgmnegocaaDoorPktC
import Derived.KernelRfl
set_option linter.unusedVariables false
set_option linter.unusedSimpArgs false
namespace PX
open Go
namespace Md
def leO (p : Option Str) (f : Str) : Bool := match p with | none => false | some g => Op.bytesLess f g || f == g
def rY : Option Str → List aF → Int
 | _, [] => 0
 | p, x :: r => cond (v3 x == 0) (cond (leO p x.Filter) 22 (rY (some x.Filter) r)) (v3 x)
def anJ (l : List aF) : Int := cond (decide ((l.length : Int) > 32)) 5 (rY none l)
def anI (l : List aF) (i : Nat) : Option Str := if i = 0 then none else some (l.getD (i - 1) default).Filter
def alk (l : List aC) : Int := cond (decide ((l.length : Int) > 256)) 5 (jN iJ l)
def atz (x : Int) : Int := cond (decide (x < 0)) 1 (cond (decide (x > 65535)) 1 0)
end Md
end PX
