import Derived.Test.YtojlmojebnlmdaaGreatDoorPktA
set_option linter.unusedVariables false
set_option linter.unusedSimpArgs false
namespace PX
open Go
namespace Md
abbrev aiu : aA := aA.mk ([] : Str) ([] : Str) 0 false 0 0 ([] : Str) 0 ([] : List aG)
def willE (w : aT) : Int := cond w.Set (cond (dF 0 1099511627776 w.Delay) (gT w.Message) 1) (cond (w.Delay == 0) (cond (decide (w.Message = aiu)) 0 28) 28)
def ait (p : aC) : Int := cond (dF 0 1099511627776 p.Keep) (cond (dF 0 1099511627776 p.Expiry) (cond (dF 1 32 p.Window) (willE p.Will) 1) 1) 1
def lR (p : aC) : Int := cond (j3 p.Client) (cond (p.User == []) (ait p) (cond (j3 p.User) (ait p) 11)) 11
theorem l9 {m : aA} (h : m.good) : m.From.length < 1000000000000000 := by have h1 : m.From.length ≤ 140737488351232 := h.2.2.2.2.2.1; omega
theorem aeG {m : aA} (h : m.good) : m.Props.length < 1000000000000000 := by have := h.2.2.2.2.2.2.2.1; omega
theorem nT {s : Str} (h : okS s) : s.length < 1000000000000000 := by have h : s.length ≤ 140737488351232 := h; omega
def adf (x : Int) : Int := cond (dF 1 65535 x) 0 15
def aji (p : aC) : Int := cond (gT p.Message == 0) (cond (p.Message.Level == 0) (cond (p.ID == 0) (cond p.Dup 28 0) 15) (adf p.ID)) (gT p.Message)
def anu (n : Int) : Int := cond (n == 0) 1 (cond (decide (32 < n)) 5 0)
def aaW (x n : Int) : Int := cond (dF 1 65535 x) (anu n) 15
def zR (x : aF) : Int := cond (aco x.Filter) (cond (dF 0 2 x.Level) (cond x.NoLocal (cond (wS x.Filter).isSome 28 0) 0) 14) 13
def eB {α : Type} (f : α → Int) : List α → Int
 | [] => 0
 | x :: r => cond (f x == 0) (eB f r) (f x)
def aiF (s : Str) : Int := cond (aco s) 0 13
def aia (x : Int) : Int := cond (dF 0 29 x) 0 1
theorem zH {α : Type} {P : α → Prop} {l : List α} (h : okL P l) {i : Nat} (hi : i < l.length) : P l[i] := h.2 _ (List.getElem_mem hi)
def arc (p : aC) : Int := cond (aaW p.ID p.Subs.length == 0) (eB zR p.Subs) (aaW p.ID p.Subs.length)
def aoL (p : aC) : Int := cond (aaW p.ID p.Filters.length == 0) (eB aiF p.Filters) (aaW p.ID p.Filters.length)
def asi (p : aC) : Int := cond (aaW p.ID p.Codes.length == 0) (eB aia p.Codes) (aaW p.ID p.Codes.length)
def axh (p : aC) : Int := cond (dF 0 29 p.Code) (cond p.Present (cond (p.Code == 0) 0 28) 0) 1
def aGJ (p : aC) : Int :=
 cond (p.Kind == 1) (lR p) (cond (p.Kind == 2) (axh p) (cond (p.Kind == 14) (axh p) (cond (p.Kind == 3) (aji p)
 (cond (p.Kind == 4) (adf p.ID) (cond (p.Kind == 5) (adf p.ID) (cond (p.Kind == 6) (adf p.ID) (cond (p.Kind == 7) (adf p.ID)
 (cond (p.Kind == 8) (arc p) (cond (p.Kind == 9) (asi p) (cond (p.Kind == 11) (asi p) (cond (p.Kind == 10) (aoL p) 0)))))))))))
def aec (a b : Int) : Int := cond (a == 0) b a
end Md
end PX
