import Derived.Test.YtmcpanmcgpjfiaaGreatDoorSessD
import Derived.KernelRfl
set_option linter.unusedVariables false
set_option linter.unusedSimpArgs false
namespace PX
open Go
namespace Md
theorem aiq : bJ = some true := by kernel_rfl
def seatE (x : aA) : Int := cond (hY x.Client) (cond (dG 0 6 x.Node) (cond (dG 1 1099511627776 x.Epoch) 0 1) 1) 11
def adX : Option Str → List aA → Int
 | _, [] => 0
 | p, x :: r => cond (seatE x == 0) (cond (leO p x.Client) 22 (adX (some x.Client) r)) (seatE x)
def aaj (l : List aA) : Int := cond (decide ((l.length : Int) > 32)) 5 (adX none l)
def acb (l : List aA) (i : Nat) : Option Str := if i = 0 then none else some (l.getD (i - 1) default).Client
end Md
end PX
