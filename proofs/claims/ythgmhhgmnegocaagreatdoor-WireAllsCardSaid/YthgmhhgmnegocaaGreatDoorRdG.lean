import Derived.Test.YthgmhhgmnegocaaGreatDoorRdF
import Derived.Test.YthgmhhgmnegocaaGreatDoorNumE
set_option linter.unusedVariables false
set_option linter.unusedSimpArgs false
namespace PX
open Go
namespace Md
structure MsgD (m : aF) : Prop where
 t : m.Topic.length ≤ 64
 p : m.Payload.length ≤ 256
 l : i64 m.Level
 pr : i64 m.Priority
 ex : i64 m.Expires
 f : m.From.length ≤ 16
 sq : i64 m.Seq
 n : m.Props.length ≤ 8
 ps : ∀ x ∈ m.Props, x.Key.length ≤ 16 ∧ x.Value.length ≤ 160
theorem oP {x : Int} (h : okI .i64 x) : i64 x := aoh h
theorem fH {x : Int} (h : i64 x) : okI .i64 x := sZ h.1 h.2
def SubD (x : aH) : Prop := x.Filter.length ≤ 88 ∧ i64 x.Level
def ar4 (w : aV) : Prop := (w.Set = true → i64 w.Delay ∧ MsgD w.Message ∧ j5 w.Message = 0) ∧ (w.Set = false → w = ⟨false, 0, zeroM⟩)
end Md
end PX
