import Derived.Test.YtmcpanmcgpjfiaaGreatDoorInts
import Derived.Test.YtmcpanmcgpjfiaaGreatDoorPktC
import Derived.KernelRfl
set_option linter.unusedVariables false
set_option linter.unusedSimpArgs false
namespace PX
open Go
namespace Md
def alF (s : aJ) : Bool := (!s.Online && s.Conn != 0) || (s.Online && s.Until != 0)
def aeF (s : aJ) : Int :=
 cond (oC s.Client) (cond (s.User == [] || oC s.User) (cond (alF s) 9 (cond (eC 0 1099511627776 s.Expiry) (cond (eC 0 1099511627776 s.Until) (cond (eC 0 1099511627776 s.Dropped) 0 1) 1) 1)) 11) 11
def leO (p : Option Str) (f : Str) : Bool := match p with | none => false | some g => Op.bytesLess f g || f == g
def tU : Option Str → List aK → Int
 | _, [] => 0
 | p, x :: r => cond (aeq x == 0) (cond (leO p x.Filter) 22 (tU (some x.Filter) r)) (aeq x)
def aas (l : List aK) : Int := cond (decide ((l.length : Int) > 32)) 5 (tU none l)
def vM (l : List aK) (i : Nat) : Option Str := if i = 0 then none else some (l.getD (i - 1) default).Filter
def yP (l : List aC) : Int := cond (decide ((l.length : Int) > 256)) 5 (oO mP l)
def agT (x : Int) : Int := cond (decide (x < 0)) 1 (cond (decide (x > 65535)) 1 0)
def vD (p : bC) : Int := cond (decide ((p.Used.length : Int) > 32)) 5 (cond (oD 0 p.Used) (agT p.Last) 15)
def wV (id : Int) : Int → List aE → Int
 | _, [] => -1
 | k, x :: r => cond (x.ID == id) k (wV id (k + 1) r)
def abp (x : aE) : Int :=
 cond (mP x.Message == 0) (cond (x.Message.Level == 0) 14 (cond (x.State == 1) 0 (cond (x.State == 2) (cond (x.Message.Level == 1) 9 0) 9))) (mP x.Message)
def xY (used : List Int) (seen : List aE) (x : aE) : Int := cond (used.contains x.ID) (cond (seen.any fun y => y.ID == x.ID) 15 (abp x)) 15
def sZ (used : List Int) : List aE → List aE → Int
 | _, [] => 0
 | seen, x :: r => cond (xY used seen x == 0) (sZ used (seen ++ [x]) r) (xY used seen x)
def aeH (w : aM) : Int :=
 cond (decide (w.Limit < 0)) 1 (cond (decide (w.Limit > 32)) 1 (cond (vD w.Pool == 0) (cond (decide ((w.Items.length : Int) > 32)) 5 (cond (sZ w.Pool.Used [] w.Items == 0) (cond (decide ((w.Items.length : Int) < (w.Pool.Used.length : Int))) 15 0) (sZ w.Pool.Used [] w.Items))) (vD w.Pool)))
def adO (s : aJ) : Int := oO id [aeF s, aas s.Subs, yP s.Queue, aeH s.Out, uP s.In.IDs, aav s.Will]
end Md
end PX
