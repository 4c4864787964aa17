import Derived.Test.YtmcpanmcgpjfiaaGreatDoorNumB
import Derived.Test.YtmcpanmcgpjfiaaGreatDoorSessB
set_option linter.unusedVariables false
set_option linter.unusedSimpArgs false
namespace PX
open Go
namespace Md
def yM (b : Bool) : Int := if b then 1 else 0
def zB (x : aK) : List Int := gQ x.Filter ++ (cO x.Level ++ cO (yM x.NoLocal))
def j4 (x : aE) : List Int := cO x.ID ++ (cO x.State ++ pL x.Message)
structure agy (s : aI) : Prop where
 g : s.good
 c : s.Client.length ≤ 1000
 u : s.User.length ≤ 1000
 sn : s.Subs.length ≤ 1000
 sk : ∀ x ∈ s.Subs, x.Filter.length ≤ 1000
 qn : s.Queue.length ≤ 1000
 qk : ∀ m ∈ s.Queue, Brief m
 iN : s.Out.Items.length ≤ 1000
 ik : ∀ f ∈ s.Out.Items, Brief f.Message
 us : s.Out.Pool.Used.length ≤ 1000
 ids : s.In.IDs.length ≤ 1000
 wl : s.Will.Set = true → Brief s.Will.Message
end Md
end PX
