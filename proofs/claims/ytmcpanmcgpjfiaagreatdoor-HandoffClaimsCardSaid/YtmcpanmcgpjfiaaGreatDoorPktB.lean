import Derived.Test.YtmcpanmcgpjfiaaGreatDoorPktA
set_option linter.unusedVariables false
set_option linter.unusedSimpArgs false
namespace PX
open Go
namespace Md
abbrev ao0 : aC := aC.mk ([] : Str) ([] : Str) 0 false 0 0 ([] : Str) 0 ([] : List aG)
def aav (w : bO) : Int := cond w.Set (cond (eC 0 1099511627776 w.Delay) (mP w.Message) 1) (cond (w.Delay == 0) (cond (decide (w.Message = ao0)) 0 28) 28)
theorem qE {s : Str} (h : okS s) : s.length < 1000000000000000 := by have h : s.length ≤ 140737488351232 := h; omega
def aC3 (x : Int) : Int := cond (eC 1 65535 x) 0 15
def auq (n : Int) : Int := cond (n == 0) 1 (cond (decide (32 < n)) 5 0)
def aCJ (x n : Int) : Int := cond (eC 1 65535 x) (auq n) 15
def aeq (x : aK) : Int := cond (adJ x.Filter) (cond (eC 0 2 x.Level) (cond x.NoLocal (cond (vL x.Filter).isSome 28 0) 0) 14) 13
def oO {α : Type} (f : α → Int) : List α → Int
 | [] => 0
 | x :: r => cond (f x == 0) (oO f r) (f x)
def aDi (s : Str) : Int := cond (adJ s) 0 13
def aDk (x : Int) : Int := cond (eC 0 29 x) 0 1
theorem xC {α : Type} {P : α → Prop} {l : List α} (h : okL P l) {i : Nat} (hi : i < l.length) : P l[i] := h.2 _ (List.getElem_mem hi)
def aqh (a b : Int) : Int := cond (a == 0) b a
end Md
end PX
