import Derived.Test.YtmcpanmcgpjfiaaGreatDoorNumC
set_option linter.unusedVariables false
set_option linter.unusedSimpArgs false
namespace PX
open Go
namespace Md
def jQ {α : Type} (f : α → List Int) (l : List α) : List Int := cO (l.length : Int) ++ l.flatMap f
def zN (w : bM) : List Int := if w.Set then cO w.Delay ++ pL w.Message else []
def iV (s : aI) : List Int :=
 gQ s.Client ++ (gQ s.User ++ (cO s.Expiry ++ (cO s.Until ++ (cO s.Dropped ++ (jQ zB s.Subs ++ (jQ pL s.Queue ++ (cO s.Out.Limit ++ (jQ j4 s.Out.Items ++ (jQ cO s.Out.Pool.Used ++ (cO s.Out.Pool.Last ++ (jQ cO s.In.IDs ++ (cO (yM s.Will.Set) ++ zN s.Will))))))))))))
end Md
end PX
