import Derived.Test.YtmcpanmcgpjfiaaGreatDoorMsgA
set_option linter.unusedVariables false
set_option linter.unusedSimpArgs false
namespace PX
open Go
namespace Md
def aA1 : Option Str → Str → Bool
 | none, _ => false
 | some k, s => Op.bytesLess s k || s == k
def adN : Option Str → List aG → Int
 | _, [] => 0
 | k, x :: r => cond (amo x.Key) (cond (decide (160 < x.Value.length)) 5 (cond (aA1 k x.Key) 16 (adN (some x.Key) r))) 16
def aaH (l : List aG) : Int := cond (decide (8 < l.length)) 5 (adN none l)
theorem cL {α : Type} (b : Bool) (x y : α) : some (cond b x y) = cond b (some x) (some y) := by cases b <;> rfl
def mP (m : aC) : Int := cond (aga m.Topic) (cond (decide (256 < (m.Payload.length : Int))) 5 (cond (eC 0 2 m.Level) (cond (eC 0 9 m.Priority) (cond (eC 0 1099511627776 m.Expires)
 (cond (m.From == []) (cond (eC 0 1099511627776 m.Seq) (aaH m.Props) 1) (cond (oC m.From) (cond (eC 0 1099511627776 m.Seq) (aaH m.Props) 1) 11)) 1) 1) 14)) 12
end Md
end PX
