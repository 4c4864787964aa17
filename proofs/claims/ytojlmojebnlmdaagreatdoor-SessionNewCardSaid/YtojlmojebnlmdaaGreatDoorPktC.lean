import Derived.Test.YtojlmojebnlmdaaGreatDoorPktB
import Derived.KernelRfl
set_option linter.unusedVariables false
set_option linter.unusedSimpArgs false
namespace PX
open Go
namespace Md
def avj (k : Int) : Bool := dL 3 7 k || k == 14
def aGo (k : Int) : Bool := avj k || (k == 1 || (k == 8 || (k == 10 || k == 12)))
def aGp (k : Int) : Bool := avj k || (k == 2 || (k == 9 || (k == 11 || k == 13)))
def aqM (k i : Int) : aC := aC.mk k i false akc ([] : Str) ([] : Str) false 0 0 0 (aU.mk false 0 akc) false 0 ([] : List aF) ([] : List Str) ([] : List Int)
def acz (p : aC) : Int := cond (p.Kind == 3) (cond (p.Message.Level == 1) 4 (cond (p.Message.Level == 2) 5 0)) (cond (p.Kind == 5) 6 (cond (p.Kind == 6) 7 (cond (p.Kind == 12) 13 0)))
def ap5 (p : aC) : aC × Bool := cond (acz p == 0) (aqM 0 0, false) (aqM (acz p) p.ID, true)
end Md
end PX
