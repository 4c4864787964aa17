import Derived.Test.YtahbfpamckocmaaGreatDoorSessN
set_option linter.unusedVariables false
set_option linter.unusedSimpArgs false
namespace PX
open Go
namespace Md
structure aj3 (s : aC) (r : aC) (L : List (Int × aA)) : Prop where
 sub : (L.map (·.2.Seq) ++ r.Queue.map (·.Seq)).Sublist (s.Queue.map (·.Seq))
 num : r.Dropped + (L.length : Int) + (r.Queue.length : Int) = s.Dropped + (s.Queue.length : Int)
 out : r.Out.Items.length ≤ s.Out.Items.length + L.length
def wD (L : List (Int × aA)) : List aF := L.map fun p => aeK p.1 false p.2
theorem ap1 {s : aC} (h : SOK s) {n : Int} (h0 : 0 ≤ n) (h1 : s.Dropped + n ≤ 1099511627776) : (pY s n).Dropped = s.Dropped + n := by
 have a := (oM.1 h.head).2.2.2.2.2
 have e : IntKind.wrap .i64 (s.Dropped + n) = s.Dropped + n := by rw [IntKind.wrap_i64]; omega
 show (if 1099511627776 < IntKind.wrap .i64 (s.Dropped + n) then 1099511627776 else IntKind.wrap .i64 (s.Dropped + n)) = _
 rw [e, if_neg (by omega)]
def amL (k id : Int) : aF := aF.mk k id false (aA.mk ([] : Str) ([] : Str) 0 false 0 0 ([] : Str) 0 ([] : List aD)) ([] : Str) ([] : Str) false 0 0 0 (aV.mk false 0 (aA.mk ([] : Str) ([] : Str) 0 false 0 0 ([] : Str) 0 ([] : List aD))) false 0 ([] : List aG) ([] : List Str) ([] : List Int)
def ayr (f : aB) : aF :=
 cond (f.Message.Level == 1) (amL 4 f.ID) (cond (f.State == 1) (amL 5 f.ID) (amL 7 f.ID))
end Md
end PX
