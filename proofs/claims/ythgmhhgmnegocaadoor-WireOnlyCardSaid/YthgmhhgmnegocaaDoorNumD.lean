import Derived.Test.YthgmhhgmnegocaaDoorNumC
set_option linter.unusedVariables false
set_option linter.unusedSimpArgs false
namespace PX
open Go
namespace Md
def j5 {α : Type} (f : α → List Int) (l : List α) : List Int := cB (l.length : Int) ++ l.flatMap f
def qQ (w : aP) : List Int := if w.Set then cB w.Delay ++ nK w.Message else []
end Md
end PX
