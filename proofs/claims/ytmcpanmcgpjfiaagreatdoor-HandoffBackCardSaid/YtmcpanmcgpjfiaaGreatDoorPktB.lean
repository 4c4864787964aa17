import Derived.Test.YtmcpanmcgpjfiaaGreatDoorPktA
set_option linter.unusedVariables false
set_option linter.unusedSimpArgs false
namespace PX
open Go
namespace Md
abbrev pS : aC := aC.mk ([] : Str) ([] : Str) 0 false 0 0 ([] : Str) 0 ([] : List aG)
def zK (w : bM) : Int := cond w.Set (cond (fE 0 1099511627776 w.Delay) (checkM w.Message) 1) (cond (w.Delay == 0) (cond (decide (w.Message = pS)) 0 28) 28)
theorem zG {m : aC} (h : m.good) : m.From.length < 1000000000000000 := by have h1 : m.From.length ≤ 140737488351232 := h.2.2.2.2.2.1; omega
theorem akj {m : aC} (h : m.good) : m.Props.length < 1000000000000000 := by have := h.2.2.2.2.2.2.2.1; omega
theorem uQ {s : Str} (h : okS s) : s.length < 1000000000000000 := by have h : s.length ≤ 140737488351232 := h; omega
def aId (x : Int) : Int := cond (fE 1 65535 x) 0 15
def azv (n : Int) : Int := cond (n == 0) 1 (cond (decide (32 < n)) 5 0)
def aGW (x n : Int) : Int := cond (fE 1 65535 x) (azv n) 15
def aco (x : aK) : Int := cond (vP x.Filter) (cond (fE 0 2 x.Level) (cond x.NoLocal (cond (vL x.Filter).isSome 28 0) 0) 14) 13
def sV {α : Type} (f : α → Int) : List α → Int
 | [] => 0
 | x :: r => cond (f x == 0) (sV f r) (f x)
def aIj (s : Str) : Int := cond (vP s) 0 13
def aIr (x : Int) : Int := cond (fE 0 29 x) 0 1
theorem aaS {α : Type} {P : α → Prop} {l : List α} (h : okL P l) {i : Nat} (hi : i < l.length) : P l[i] := h.2 _ (List.getElem_mem hi)
def avm (a b : Int) : Int := cond (a == 0) b a
end Md
end PX
