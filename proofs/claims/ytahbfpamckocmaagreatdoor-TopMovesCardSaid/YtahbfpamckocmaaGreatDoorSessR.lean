import Derived.Test.YtahbfpamckocmaaGreatDoorSessQ
set_option linter.unusedVariables false
set_option linter.unusedSimpArgs false
namespace PX
open Go
namespace Md
def uL (p : aF) : Bool := p.Kind == 3 && !p.Dup
theorem am8 {s : aC} (h : SOK s) {now : Int} (hn : 0 ≤ now ∧ now ≤ 1099511627776) (hd : s.Dropped + s.Queue.length ≤ 1099511627776) : aj3 s (fV s now) [] := by
 have hq := h.qlen
 have hf := List.length_filter_le lv s.Queue
 have a := (oM.1 h.head).2.2.2.2.2
 have e : IntKind.wrap .i64 ((s.Queue.length : Int) - ((s.Queue.filter lv).length : Int)) = (s.Queue.length : Int) - ((s.Queue.filter lv).length : Int) := by rw [IntKind.wrap_i64]; omega
 have e2 : IntKind.wrap .i64 (s.Dropped + ((s.Queue.length : Int) - ((s.Queue.filter lv).length : Int))) = s.Dropped + ((s.Queue.length : Int) - ((s.Queue.filter lv).length : Int)) := by rw [IntKind.wrap_i64]; omega
 refine ⟨?_, ?_, by simp [fV, pY]⟩
 ·show (s.Queue.filter lv |>.map (·.Seq)).Sublist _
  exact List.Sublist.map _ List.filter_sublist
 ·show (if 1099511627776 < IntKind.wrap .i64 (s.Dropped + IntKind.wrap .i64 ((s.Queue.length : Int) - ((s.Queue.filter lv).length : Int))) then 1099511627776 else IntKind.wrap .i64 (s.Dropped + IntKind.wrap .i64 ((s.Queue.length : Int) - ((s.Queue.filter lv).length : Int)))) + _ + ((s.Queue.filter lv).length : Int) = _
  rw [e, e2, if_neg (by omega)]
  simp
  omega
def acV (x : Int) : aF := aF.mk 1 0 false (aA.mk ([] : Str) ([] : Str) 0 false 0 0 ([] : Str) 0 ([] : List aD)) ([99] : Str) ([] : Str) false 0 9 x (aV.mk false 0 (aA.mk ([] : Str) ([] : Str) 0 false 0 0 ([] : Str) 0 ([] : List aD))) false 0 ([] : List aG) ([] : List Str) ([] : List Int)
theorem aoD : fE ([99] : Str) = true := by kernel_rfl
theorem ahw : willE (aV.mk false 0 lP) = 0 := by kernel_rfl
end Md
end PX
