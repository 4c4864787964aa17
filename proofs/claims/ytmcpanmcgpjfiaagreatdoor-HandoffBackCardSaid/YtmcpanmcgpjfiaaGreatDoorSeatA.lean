import Derived.Test.YtmcpanmcgpjfiaaGreatDoorSessD
import Derived.KernelRfl
set_option linter.unusedVariables false
set_option linter.unusedSimpArgs false
namespace PX
open Go
namespace Md
theorem am9 : bK = some true := by kernel_rfl
def acA (x : aA) : Int := cond (gS x.Client) (cond (fE 0 6 x.Node) (cond (fE 1 1099511627776 x.Epoch) 0 1) 1) 11
def amb : Option Str → List aA → Int
 | _, [] => 0
 | p, x :: r => cond (acA x == 0) (cond (leO p x.Client) 22 (amb (some x.Client) r)) (acA x)
def amw (l : List aA) : Int := cond (decide ((l.length : Int) > 32)) 5 (amb none l)
def adG (l : List aA) (i : Nat) : Option Str := if i = 0 then none else some (l.getD (i - 1) default).Client
end Md
end PX
