import Derived.Test.YtmcpanmcgpjfiaaGreatDoorInts
import Derived.Test.YtmcpanmcgpjfiaaGreatDoorPktC
import Derived.KernelRfl
set_option linter.unusedVariables false
set_option linter.unusedSimpArgs false
namespace PX
open Go
namespace Md
def aov (s : aI) : Bool := (!s.Online && s.Conn != 0) || (s.Online && s.Until != 0)
def aeh (s : aI) : Int :=
 cond (hY s.Client) (cond (s.User == [] || hY s.User) (cond (aov s) 9 (cond (dG 0 1099511627776 s.Expiry) (cond (dG 0 1099511627776 s.Until) (cond (dG 0 1099511627776 s.Dropped) 0 1) 1) 1)) 11) 11
def leO (p : Option Str) (f : Str) : Bool := match p with | none => false | some g => Op.bytesLess f g || f == g
def tC : Option Str → List aK → Int
 | _, [] => 0
 | p, x :: r => cond (acO x == 0) (cond (leO p x.Filter) 22 (tC (some x.Filter) r)) (acO x)
def abE (l : List aK) : Int := cond (decide ((l.length : Int) > 32)) 5 (tC none l)
def xQ (l : List aK) (i : Nat) : Option Str := if i = 0 then none else some (l.getD (i - 1) default).Filter
def aaG (l : List aC) : Int := cond (decide ((l.length : Int) > 256)) 5 (rF mT l)
def ais (x : Int) : Int := cond (decide (x < 0)) 1 (cond (decide (x > 65535)) 1 0)
def xL (p : bE) : Int := cond (decide ((p.Used.length : Int) > 32)) 5 (cond (qC 0 p.Used) (ais p.Last) 15)
def y7 (id : Int) : Int → List aE → Int
 | _, [] => -1
 | k, x :: r => cond (x.ID == id) k (y7 id (k + 1) r)
def acJ (x : aE) : Int :=
 cond (mT x.Message == 0) (cond (x.Message.Level == 0) 14 (cond (x.State == 1) 0 (cond (x.State == 2) (cond (x.Message.Level == 1) 9 0) 9))) (mT x.Message)
def aae (used : List Int) (seen : List aE) (x : aE) : Int := cond (used.contains x.ID) (cond (seen.any fun y => y.ID == x.ID) 15 (acJ x)) 15
def vC (used : List Int) : List aE → List aE → Int
 | _, [] => 0
 | seen, x :: r => cond (aae used seen x == 0) (vC used (seen ++ [x]) r) (aae used seen x)
def afV (w : aM) : Int :=
 cond (decide (w.Limit < 0)) 1 (cond (decide (w.Limit > 32)) 1 (cond (xL w.Pool == 0) (cond (decide ((w.Items.length : Int) > 32)) 5 (cond (vC w.Pool.Used [] w.Items == 0) (cond (decide ((w.Items.length : Int) < (w.Pool.Used.length : Int))) 15 0) (vC w.Pool.Used [] w.Items))) (xL w.Pool)))
def qV (s : aI) : Int := rF id [aeh s, abE s.Subs, aaG s.Queue, afV s.Out, wL s.In.IDs, aan s.Will]
end Md
end PX
