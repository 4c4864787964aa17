import Derived.Test.YtmcpanmcgpjfiaaGreatDoorPktA
set_option linter.unusedVariables false
set_option linter.unusedSimpArgs false
namespace PX
open Go
namespace Md
abbrev apZ : aC := aC.mk ([] : Str) ([] : Str) 0 false 0 0 ([] : Str) 0 ([] : List aG)
def aan (w : bO) : Int := cond w.Set (cond (dG 0 1099511627776 w.Delay) (mT w.Message) 1) (cond (w.Delay == 0) (cond (decide (w.Message = apZ)) 0 28) 28)
theorem xJ {m : aC} (h : m.good) : m.From.length < 1000000000000000 := by have h1 : m.From.length ≤ 140737488351232 := h.2.2.2.2.2.1; omega
theorem ajl {m : aC} (h : m.good) : m.Props.length < 1000000000000000 := by have := h.2.2.2.2.2.2.2.1; omega
theorem p9 {s : Str} (h : okS s) : s.length < 1000000000000000 := by have h : s.length ≤ 140737488351232 := h; omega
def aFL (x : Int) : Int := cond (dG 1 65535 x) 0 15
def azX (n : Int) : Int := cond (n == 0) 1 (cond (decide (32 < n)) 5 0)
def aEI (x n : Int) : Int := cond (dG 1 65535 x) (azX n) 15
def acO (x : aK) : Int := cond (zO x.Filter) (cond (dG 0 2 x.Level) (cond x.NoLocal (cond (vO x.Filter).isSome 28 0) 0) 14) 13
def rF {α : Type} (f : α → Int) : List α → Int
 | [] => 0
 | x :: r => cond (f x == 0) (rF f r) (f x)
def aFY (s : Str) : Int := cond (zO s) 0 13
def aFZ (x : Int) : Int := cond (dG 0 29 x) 0 1
theorem zW {α : Type} {P : α → Prop} {l : List α} (h : okL P l) {i : Nat} (hi : i < l.length) : P l[i] := h.2 _ (List.getElem_mem hi)
def auG (a b : Int) : Int := cond (a == 0) b a
end Md
end PX
