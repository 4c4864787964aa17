import Derived.Test.YtmcpanmcgpjfiaaGreatDoorMsgA
set_option linter.unusedVariables false
set_option linter.unusedSimpArgs false
namespace PX
open Go
namespace Md
def aDw : Option Str → Str → Bool
 | none, _ => false
 | some k, s => Op.bytesLess s k || s == k
def aal : Option Str → List aG → Int
 | _, [] => 0
 | k, x :: r => cond (ahI x.Key) (cond (decide (160 < x.Value.length)) 5 (cond (aDw k x.Key) 16 (aal (some x.Key) r))) 16
def yG (l : List aG) : Int := cond (decide (8 < l.length)) 5 (aal none l)
theorem cQ {α : Type} (b : Bool) (x y : α) : some (cond b x y) = cond b (some x) (some y) := by cases b <;> rfl
def mT (m : aC) : Int := cond (abR m.Topic) (cond (decide (256 < (m.Payload.length : Int))) 5 (cond (dG 0 2 m.Level) (cond (dG 0 9 m.Priority) (cond (dG 0 1099511627776 m.Expires)
 (cond (m.From == []) (cond (dG 0 1099511627776 m.Seq) (yG m.Props) 1) (cond (hY m.From) (cond (dG 0 1099511627776 m.Seq) (yG m.Props) 1) 11)) 1) 1) 14)) 12
end Md
end PX
