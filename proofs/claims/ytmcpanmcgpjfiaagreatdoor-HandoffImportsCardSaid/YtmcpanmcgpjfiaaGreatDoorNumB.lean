import Derived.Test.YtmcpanmcgpjfiaaGreatDoorNumA
set_option linter.unusedVariables false
set_option linter.unusedSimpArgs false
namespace PX
open Go
namespace Md
def gQ (s : Str) : List Int := cO (s.length : Int) ++ ofStr s
structure Brief (m : aC) : Prop where
 t : m.Topic.length ≤ 100000
 p : m.Payload.length ≤ 100000
 f : m.From.length ≤ 100000
 n : m.Props.length ≤ 100
 k : ∀ x ∈ m.Props, x.Key.length ≤ 100000 ∧ x.Value.length ≤ 100000
 g : m.good
def oL (l : List aG) : List Int := l.flatMap fun x => gQ x.Key ++ gQ x.Value
def pL (m : aC) : List Int := gQ m.Topic ++ (gQ m.Payload ++ (cO m.Level ++ (cO (if m.Retain then 1 else 0) ++ (cO m.Priority ++ (cO m.Expires ++ (gQ m.From ++ (cO m.Seq ++ (cO (m.Props.length : Int) ++ oL m.Props))))))))
end Md
end PX
