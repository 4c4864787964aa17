import Derived.Test.YthgmhhgmnegocaaGreatDoorNumC
set_option linter.unusedVariables false
set_option linter.unusedSimpArgs false
namespace PX
open Go
namespace Md
def m7 {α : Type} (f : α → List Int) (l : List α) : List Int := cV (l.length : Int) ++ l.flatMap f
def zQ (w : aV) : List Int := if w.Set then cV w.Delay ++ rD w.Message else []
end Md
end PX
