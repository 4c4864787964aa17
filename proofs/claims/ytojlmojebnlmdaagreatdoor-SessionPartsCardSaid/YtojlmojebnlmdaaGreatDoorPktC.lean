import Derived.Test.YtojlmojebnlmdaaGreatDoorPktB
import Derived.KernelRfl
set_option linter.unusedVariables false
set_option linter.unusedSimpArgs false
namespace PX
open Go
namespace Md
def avo (k : Int) : Bool := dF 3 7 k || k == 14
def aGB (k : Int) : Bool := avo k || (k == 1 || (k == 8 || (k == 10 || k == 12)))
def aGz (k : Int) : Bool := avo k || (k == 2 || (k == 9 || (k == 11 || k == 13)))
def arz (k i : Int) : aC := aC.mk k i false aiu ([] : Str) ([] : Str) false 0 0 0 (aT.mk false 0 aiu) false 0 ([] : List aF) ([] : List Str) ([] : List Int)
def ack (p : aC) : Int := cond (p.Kind == 3) (cond (p.Message.Level == 1) 4 (cond (p.Message.Level == 2) 5 0)) (cond (p.Kind == 5) 6 (cond (p.Kind == 6) 7 (cond (p.Kind == 12) 13 0)))
def ap2 (p : aC) : aC × Bool := cond (ack p == 0) (arz 0 0, false) (arz (ack p) p.ID, true)
end Md
end PX
